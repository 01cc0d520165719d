/- CompatSelf: the walk of the law. -/
import Derived.Test.YtpnbaapjjchlbaaLawCompatLists
namespace Go.Proofs.Ytpnbaapjjchlbaa
open Go Go.RowKit Go.Cit

def cs13B : Boxes := ⟨1, fun _ => 11, fun _ => 12, fun _ => 8, fun _ => 43, fun _ => #[.int .i64 0, .int .i64 0, .int .i64 0, .bool false, .slice none 0 0]⟩
theorem necs13 {n : Nat} {o : Option Nat} (h1 : n ≠ 11) (h2 : n ≠ 12) (h3 : o ≠ some 8) : ∀ j, j < cs13B.nb → n ≠ cs13B.ia j ∧ n ≠ cs13B.is_ j ∧ o ≠ some (cs13B.d j) := fun _ _ => ⟨h1, h2, h3⟩
def cs13T (V : CfgV) (B k : Nat) (i : Int) (Q : Pt) (d : Nat) (v : Value) (w : World) : Prop := match d with
  | 59 => v = (.agg #[.slice V.wa V.ws.length V.wc, .slice V.pa V.ps.length V.pc, .slice V.ca V.cs.length V.cc])
  | 60 => v = (.pointer (some ⟨B, 2, none⟩))
  | 61 => v = (.slice V.ca V.cs.length V.cc)
  | 62 => v = (.int .i64 (k : Int))
  | 63 => v = (.pointer (some (ad V.ca (k * 5))))
  | 64 => v = (.pointer (some ⟨(ad V.ca (k * 5)).block, (ad V.ca (k * 5)).off + 1, none⟩))
  | 65 => v = (.int .i64 i)
  | 66 => isTup (Q) (true) v w
  | 58 => isTup (Q) (true) v w
  | 67 => isPt (Q) v w
  | 68 => v = (.bool true)
  | 9 => v = (.bool true)
  | _ => True
theorem cs13T_bx (V : CfgV) (B k : Nat) (i : Int) (Q : Pt) {d : Nat} {v : Value} {W w w' : World} (hG : bxG cs13B W w w') (hyp : cs13T V B k i Q d v w) : cs13T V B k i Q d v w' := by
  have hne : ∀ j, j < cs13B.nb → (5 : Nat) ≠ cs13B.ty j := fun _ _ => neUP
  unfold cs13T at *
  split at hyp <;> first | exact hyp | exact isTup_bx hne hG hyp | exact isPt_bx hne hG hyp
def cs14B : Boxes := ⟨1, fun _ => 11, fun _ => 12, fun _ => 10, fun _ => 43, fun _ => #[.int .i64 0, .int .i64 0, .int .i64 0, .bool false, .slice none 0 0]⟩
theorem necs14 {n : Nat} {o : Option Nat} (h1 : n ≠ 11) (h2 : n ≠ 12) (h3 : o ≠ some 10) : ∀ j, j < cs14B.nb → n ≠ cs14B.ia j ∧ n ≠ cs14B.is_ j ∧ o ≠ some (cs14B.d j) := fun _ _ => ⟨h1, h2, h3⟩
def cs14T (V : CfgV) (B k : Nat) (i2 : Int) (Q2 : Pt) (d : Nat) (v : Value) (w : World) : Prop := match d with
  | 70 => v = (.agg #[.slice V.wa V.ws.length V.wc, .slice V.pa V.ps.length V.pc, .slice V.ca V.cs.length V.cc])
  | 71 => v = (.pointer (some ⟨B, 2, none⟩))
  | 72 => v = (.slice V.ca V.cs.length V.cc)
  | 73 => v = (.int .i64 (k : Int))
  | 74 => v = (.pointer (some (ad V.ca (k * 5))))
  | 75 => v = (.pointer (some ⟨(ad V.ca (k * 5)).block, (ad V.ca (k * 5)).off + 2, none⟩))
  | 76 => v = (.int .i64 i2)
  | 77 => isTup (Q2) (true) v w
  | 69 => isTup (Q2) (true) v w
  | 78 => isPt (Q2) v w
  | 79 => v = (.bool true)
  | 11 => v = (.bool true)
  | _ => True
theorem cs14T_bx (V : CfgV) (B k : Nat) (i2 : Int) (Q2 : Pt) {d : Nat} {v : Value} {W w w' : World} (hG : bxG cs14B W w w') (hyp : cs14T V B k i2 Q2 d v w) : cs14T V B k i2 Q2 d v w' := by
  have hne : ∀ j, j < cs14B.nb → (5 : Nat) ≠ cs14B.ty j := fun _ _ => neUP
  unfold cs14T at *
  split at hyp <;> first | exact hyp | exact isTup_bx hne hG hyp | exact isPt_bx hne hG hyp
theorem apart_near {N : Nat} {w : World} {a a' b : Option Addr} {E : TypeId} {B : Nat} {L : List Int} {c : Nat} (h : ∀ g, blk a = some g → blk b ≠ some g) (hb : VOwn cZ 1 E B w b L c) (hN : N = w.heap.size) (hn : Near N a a') : ∀ g, blk a' = some g → blk b ≠ some g := by
  intro g hg hb'
  rcases hn g hg with h1 | h1
  · exact h g h1 hb'
  · have := (hb.blk_ge hb').2; omega
set_option maxRecDepth 100000 in
set_option maxHeartbeats 4000000 in
theorem compatSelf_out (w : World) (V : CfgV) (h : V.At w) (hb : ∀ x ∈ V.ps, x.img.length ≤ 140737488351232) (hg : greatV V = true ∨ errs V ≠ []) : Calls Try.prog 10 #[.agg #[.slice V.wa V.ws.length V.wc, .slice V.pa V.ps.length V.pc, .slice V.ca V.cs.length V.cc]] w fun e w' => e = .returned (.bool true) ∧ Below w.heap.size w w' := by
  obtain ⟨w0, hw0⟩ : ∃ w0, w0 = w.alloc (.cells #[.slice V.wa V.ws.length V.wc, .slice V.pa V.ps.length V.pc, .slice V.ca V.cs.length V.cc] 26) := ⟨_, rfl⟩
  have B0 : Below w.heap.size w w0 := by rw [hw0]; exact (Below.refl _ w).alloc (Nat.le_refl _) _
  have hI : InBox w0 w.heap.size V := by rw [hw0]; exact inBox_new w V _
  have HV := Lib.hid (h.stay B0)
  have HI := Lib.hid hI
  have HB0 := Lib.hid B0
  have HC := Lib.hid (cgreat_calls w0 V (h.stay B0) hb)
  obtain ⟨g, hgg⟩ : ∃ g, Hid (g = greatV V) := ⟨_, rfl⟩
  rw [← hgg.out] at HC hg
  have HG := Lib.hid hg
  clear h B0 hI hg
  cases g with
  | true =>
    go_enter Try.func10, Try.ntmps10
    go_wp2_with fail
    rw [← hw0]
    clear hw0
    refine (HC.out).mono ?_
    rintro e w1 ⟨rfl, hb1⟩
    have HB := Lib.hid hb1
    clear hb1
    go_wp2_with fail
    refine (awake13_calls _).mono ?_
    rintro e wq ⟨rfl, hbq⟩
    have HQ := Lib.hid (HB.out.trans (hbq.mono HB.out.size))
    clear hbq
    go_wp2_with fail
    go_ret
    exact ⟨rfl, HB0.out.trans (HQ.out.mono HB0.out.size)⟩
  | false =>
    have hs := small_of hgg.out.symm
    have HF : Hid (fitsV V = false) := by
      rw [Hid]; unfold fitsV
      rw [decide_eq_false_iff_not]
      rcases HG.out with h | h
      · exact absurd h (by decide)
      · exact h
    go_enter Try.func10, Try.ntmps10
    go_wp2_with fail
    rw [← hw0]
    clear hw0
    refine (HC.out).mono ?_
    rintro e w1 ⟨rfl, hb1⟩
    have hf := fits_calls w1 V (HV.out.stay hb1) hs
    rw [HF.out] at hf
    have HFC := Lib.hid hf
    obtain ⟨c0, c1, c2⟩ := HI.out.keep hb1
    have HB1 := Lib.hid hb1
    clear hb1 hf
    go_wp2_with fail
    refine (HFC.out).mono ?_
    rintro e w2 ⟨rfl, hb2⟩
    have HB := Lib.hid (HB1.out.trans (hb2.mono HB1.out.size))
    clear hb2 c0 c1 c2
    go_wp2_with fail
    refine (awake13_calls _).mono ?_
    rintro e wq ⟨rfl, hbq⟩
    have HQ := Lib.hid (HB.out.trans (hbq.mono HB.out.size))
    clear hbq
    go_wp2_with fail
    go_ret
    exact ⟨rfl, HB0.out.trans (HQ.out.mono HB0.out.size)⟩

set_option maxRecDepth 100000 in
set_option maxHeartbeats 8000000 in
theorem compatSelf_in (w : World) (V : CfgV) (h : V.At w) (hb : ∀ x ∈ V.ps, x.img.length ≤ 140737488351232) (hg : greatV V = false) (he : errs V = []) : Calls Try.prog 10 #[.agg #[.slice V.wa V.ws.length V.wc, .slice V.pa V.ps.length V.pc, .slice V.ca V.cs.length V.cc]] w fun e w' => e = .returned (.bool true) ∧ Below w.heap.size w w' := by
  have GO := Lib.hid (good_iff.1 he)
  have hs := small_of hg
  obtain ⟨w0, hw0⟩ : ∃ w0, w0 = w.alloc (.cells #[.slice V.wa V.ws.length V.wc, .slice V.pa V.ps.length V.pc, .slice V.ca V.cs.length V.cc] 26) := ⟨_, rfl⟩
  have B0 : Below w.heap.size w w0 := by rw [hw0]; exact (Below.refl _ w).alloc (Nat.le_refl _) _
  have hI : InBox w0 w.heap.size V := by rw [hw0]; exact inBox_new w V _
  have HV := Lib.hid (h.stay B0)
  have HI := Lib.hid hI
  have HB0 := Lib.hid B0
  have hc := cgreat_calls w0 V (h.stay B0) hb
  rw [hg] at hc
  have HC := Lib.hid hc
  have HE := Lib.hid he
  have hl2 := h.pts.len_le
  have hl3 := h.chs.len_le
  have HFEW := Lib.hid (And.intro hs.pts hs.chs)
  clear h B0 hI hg hb hc he
  go_enter Try.func10, Try.ntmps10
  go_wp2_with fail
  rw [← hw0]
  clear hw0
  refine (HC.out).mono ?_
  rintro e w1 ⟨rfl, hb1⟩
  have hf := fits_calls w1 V (HV.out.stay hb1) hs
  rw [show fitsV V = true by unfold fitsV; rw [HE.out]; rfl] at hf
  have HFC := Lib.hid hf
  obtain ⟨c0, c1, c2⟩ := HI.out.keep hb1
  have HB1 := Lib.hid hb1
  clear hb1 hf HC
  go_wp2_with fail
  refine (HFC.out).mono ?_
  rintro e w2 ⟨rfl, hb2⟩
  have HB2 := Lib.hid (HB1.out.trans (hb2.mono HB1.out.size))
  clear hb2 c0 c1 c2 HFC HB1
  go_wp2_with fail
  go_loopw [3, 4, 6] (fun s l i wr => ∃ (k : Nat) (a : Option Addr) (L : List Int) (c : Nat) (a' : Option Addr) (L' : List Int) (c' : Nat), s = .slice a L.length c ∧ l = .slice a' L'.length c' ∧ i = .int .i64 k ∧ k ≤ V.ps.length ∧ Hid (L = pickL (fun x => x.keep) (V.ps.take k)) ∧ Hid (L' = pickL (fun x => !x.keep) (V.ps.take k)) ∧ VOwn cZ 1 3 w0.heap.size wr a L c ∧ VOwn cZ 1 3 w0.heap.size wr a' L' c' ∧ (∀ g, blk a = some g → blk a' ≠ some g) ∧ Below w0.heap.size w0 wr) (fun _ _ i _ => V.ps.length - (intOf i).toNat)
  case atStart => exact ⟨0, none, [], 0, none, [], 0, rfl, rfl, rfl, Nat.zero_le _, rfl, rfl, VOwn.nil_ _ _ _ _ _, VOwn.nil_ _ _ _ _ _, fun g h => by simp [blk] at h, HB2.out⟩
  case round =>
    obtain ⟨k, a, L, c, a', L', c', rfl, rfl, rfl, hk, HL, HL', hO, hO', hA, B⟩ := hrel
    have HBw := Lib.hid B
    have HO := Lib.hid (And.intro hO (And.intro hO' hA))
    obtain ⟨c0, c1, c2⟩ := HI.out.keep B
    by_cases hlt : k < V.ps.length
    · have i0 := HV.out.pts.index etP k hlt
      obtain ⟨u0, u1, u2, u3, u4⟩ := pts_cells HV.out.pts B k hlt
      have HS := Lib.hid (pickL_succ (fun x : PtV => x.keep) V.ps k hlt)
      have HS' := Lib.hid (pickL_succ (fun x : PtV => !x.keep) V.ps k hlt)
      have HL9 : Hid (L.length ≤ 100) := by rw [Hid, HL.out]; have := pickL_len (fun x : PtV => x.keep) (V.ps.take k); rw [List.length_take] at this; have := HFEW.out.1; omega
      have HL9' : Hid (L'.length ≤ 100) := by rw [Hid, HL'.out]; have := pickL_len (fun x : PtV => !x.keep) (V.ps.take k); rw [List.length_take] at this; have := HFEW.out.1; omega
      obtain ⟨x, hx⟩ : ∃ x, Hid (x = V.ps[k]) := ⟨V.ps[k], rfl⟩
      rw [← hx.out] at u0 u1 u2 u3 u4 HS HS'
      obtain ⟨q, hq⟩ : ∃ q, Hid (q = x.keep) := ⟨_, rfl⟩
      rw [← hq.out] at u3 HS HS'
      clear u1 u2 u4 hO hO' hA B
      cases q with
      | true =>
        have HN : Hid (L ++ [x.id.1] = pickL (fun x => x.keep) (V.ps.take (k + 1))) := by rw [Hid, HS.out, ← HL.out]; rfl
        have HN' : Hid (L' = pickL (fun x => !x.keep) (V.ps.take (k + 1))) := by rw [Hid, HS'.out, ← HL'.out]; simp
        go_wp2_with ((with_reducible refine wpList_vapp1 (o := ⟨some 41, .call _, _, _, _, _⟩) etI cZ_len cZ_one (y := x.id.1) (.tmp 33) (.tmp 40) (by with_unfolding_all rfl) (by with_unfolding_all rfl) HO.out.1 (by with_unfolding_all rfl) (by have := HL9.out; omega) HBw.out.size (by with_unfolding_all rfl) (by with_unfolding_all rfl) ?_); intro a4 k4 w6 hO4 hg4 hn4; have HO4 := Lib.hid (And.intro hO4 (And.intro hg4 hn4)); clear hO4 hg4 hn4)
        go_roundw
        case rel => exact ⟨k + 1, a4, L ++ [x.id.1], k4, a', L', c', by simp, rfl, by go_num, by omega, HN.out, HN'.out, HO4.out.1, HO.out.2.1.save (Save.grown HO4.out.2.1) (fun g hg e => HO.out.2.2 g e.symm hg), apart_near HO.out.2.2 HO.out.2.1 rfl HO4.out.2.2, HBw.out.trans (HO.out.1.grown HO4.out.2.1 HBw.out.size)⟩
        case measure => simp [intOf]; omega
      | false =>
        have HN : Hid (L' ++ [x.id.1] = pickL (fun x => !x.keep) (V.ps.take (k + 1))) := by rw [Hid, HS'.out, ← HL'.out]; rfl
        have HN' : Hid (L = pickL (fun x => x.keep) (V.ps.take (k + 1))) := by rw [Hid, HS.out, ← HL.out]; simp
        go_wp2_with ((with_reducible refine wpList_vapp1 (o := ⟨some 50, .call _, _, _, _, _⟩) etI cZ_len cZ_one (y := x.id.1) (.tmp 42) (.tmp 49) (by with_unfolding_all rfl) (by with_unfolding_all rfl) HO.out.2.1 (by with_unfolding_all rfl) (by have := HL9'.out; omega) HBw.out.size (by with_unfolding_all rfl) (by with_unfolding_all rfl) ?_); intro a4 k4 w6 hO4 hg4 hn4; have HO4 := Lib.hid (And.intro hO4 (And.intro hg4 hn4)); clear hO4 hg4 hn4)
        go_roundw
        case rel => exact ⟨k + 1, a, L, c, a4, L' ++ [x.id.1], k4, rfl, by simp, by go_num, by omega, HN'.out, HN.out, HO.out.1.save (Save.grown HO4.out.2.1) (fun g hg e => HO.out.2.2 g hg e.symm), HO4.out.1, (fun g h e => apart_near (fun g h e => HO.out.2.2 g e h) HO.out.1 rfl HO4.out.2.2 g e h), HBw.out.trans (HO.out.2.1.grown HO4.out.2.1 HBw.out.size)⟩
        case measure => simp [intOf]; omega
    · have hk2 : k = V.ps.length := by omega
      have HL1 : Hid (partsK V V = L) := by rw [Hid, parts_self GO.out, HL.out, hk2, List.take_length]
      have HL2 : Hid (leavK V V = L') := by rw [Hid, leav_self GO.out, HL'.out, hk2, List.take_length]
      obtain ⟨wl, hwl⟩ : ∃ wl, wl = wr := ⟨_, rfl⟩
      have HBl := HBw
      have HOl : Hid (Vec cZ 1 wr a L c ∧ Vec cZ 1 wr a' L' c') := ⟨hO.vec cZ_len, hO'.vec cZ_len⟩
      rw [← hwl] at HBl HOl
      clear hO hO' hA B HO HL HL' HBw
      subst hk2
      subst hwl
      go_wp2_with fail
      clear c0 c1 c2
      go_loopw [5, 7] (fun s i wr => ∃ (k : Nat) (a5 : Option Addr) (L5 : List Int) (c5 : Nat), s = .slice a5 L5.length c5 ∧ i = .int .i64 k ∧ k ≤ V.cs.length ∧ Hid (L5 = pickC (fun c => (getP V.ps c.src.1).keep && (getP V.ps c.dst.1).keep) (V.cs.take k)) ∧ VOwn cZ 1 3 wl.heap.size wr a5 L5 c5 ∧ Below wl.heap.size wl wr) (fun _ i _ => V.cs.length - (intOf i).toNat)
      case atStart => exact ⟨0, none, [], 0, rfl, rfl, Nat.zero_le _, rfl, VOwn.nil_ _ _ _ _ _, Below.refl _ _⟩
      case round =>
        obtain ⟨k, a5, L5, c5, rfl, rfl, hk, HL5, hO5, B⟩ := hrel
        have HBB := Lib.hid B
        have HBw := Lib.hid (HBl.out.trans (B.mono HBl.out.size))
        have HO5 := Lib.hid hO5
        obtain ⟨c0, c1, c2⟩ := HI.out.keep HBw.out
        clear B hO5
        by_cases hlt : k < V.cs.length
        · have i0 := HV.out.chs.index etC k hlt
          have u1 : ∀ q : After wr, _ := fun q => (HV.out.chs.stay cCh_len (HBw.out.trans (q.bel.mono HBw.out.size))).field k hlt 1 (by decide) rfl
          have HWI := Lib.hid (GO.out.ends V.cs[k] (List.getElem_mem hlt))
          have HS := Lib.hid (pickC_succ (fun c => (getP V.ps c.src.1).keep && (getP V.ps c.dst.1).keep) V.cs k hlt)
          have HL9 : Hid (L5.length ≤ 100) := by rw [Hid, HL5.out]; have := pickC_len (fun c => (getP V.ps c.src.1).keep && (getP V.ps c.dst.1).keep) (V.cs.take k); rw [List.length_take] at this; have := HFEW.out.2; omega
          obtain ⟨x, hx⟩ : ∃ x, Hid (x = V.cs[k]) := ⟨V.cs[k], rfl⟩
          rw [← hx.out] at u1 HWI HS
          obtain ⟨i, hi⟩ : ∃ i, Hid (i = x.src.1) := ⟨_, rfl⟩
          simp only [← hi.out] at u1
          obtain ⟨Q, hQ⟩ : ∃ Q, Hid (Q = getP V.ps i) := ⟨_, rfl⟩
          have HQ : Hid (getP V.ps i = Q) := hQ.out.symm
          have HK : Hid (hasP V.ps i = true) := by rw [Hid, hi.out]; exact HWI.out.1
          go_upto_region 13 with fail
          refine wp_region_boxes cs13B (fun _ => isBx (Q)) (cs13T V w.heap.size k i Q) (by kernel_rfl) (by kernel_rfl) (by kernel_rfl) (fun _ _ _ _ hG hyp => cs13T_bx V w.heap.size k i Q hG hyp) (fun _ _ _ _ hG hyp => isBx_bx (fun _ _ => neUP) hG hyp) ?_ ?_ (fun j hj => by
              have : j = 0 := by have : j < 1 := hj; omega
              subst this; exact ⟨by decide, by decide⟩)
          · refine opsAll_cons ?_ (opsAll_cons ?_ (opsAll_cons ?_ (opsAll_cons ?_ (opsAll_cons ?_ (opsAll_cons ?_ (opsAll_cons ?_ (opsAll_cons ?_ (opsAll_cons ?_ (opsAll_cons ?_ (opsAll_cons ?_ (opsAll_cons ?_ (opsAll_cons ?_ (opsAll_cons ?_ opsAll_nil)))))))))))))
            all_goals intro δ wa wx hk
            · exact .inl ⟨wanted_free rfl, necs13 (by decide) (by decide) (by decide), gp_load (.tmp 1) rfl ((hk.old 1 (by kernel_rfl)).trans rfl) (v := (.agg #[.slice V.wa V.ws.length V.wc, .slice V.pa V.ps.length V.pc, .slice V.ca V.cs.length V.cc])) ((fun (q : After _) => load3 (fun w => by kernel_rfl) (fun w => by kernel_rfl) (keep q.bel c0) (keep q.bel c1) (keep q.bel c2)) ⟨wx, hk.inv.1⟩) ⟨Below.refl _ _, rfl⟩⟩
            · exact .inl ⟨wanted_free rfl, necs13 (by decide) (by decide) (by decide), gp_field (.tmp 1) rfl ((hk.old 1 (by kernel_rfl)).trans rfl) (v := (.pointer (some ⟨w.heap.size, 2, none⟩))) (fun w => by kernel_rfl) ⟨Below.refl _ _, rfl⟩⟩
            · exact .inl ⟨wanted_free rfl, necs13 (by decide) (by decide) (by decide), gp_load (.tmp 60) rfl (hk.slot 60 (by kernel_rfl)) (v := (.slice V.ca V.cs.length V.cc)) ((fun (q : After _) => load_at (fun w => by kernel_rfl) (keep q.bel c2)) ⟨wx, hk.inv.1⟩) ⟨Below.refl _ _, rfl⟩⟩
            · exact .inl ⟨wanted_free rfl, necs13 (by decide) (by decide) (by decide), gp_move (.tmp 7) rfl ⟨Below.refl _ _, ((hk.old 7 (by kernel_rfl)).trans rfl)⟩⟩
            · exact .inl ⟨wanted_free rfl, necs13 (by decide) (by decide) (by decide), gp_index (.tmp 61) (.tmp 62) rfl (hk.slot 61 (by kernel_rfl)) (hk.slot 62 (by kernel_rfl)) (v := (.pointer (some (ad V.ca (k * 5))))) (i0 wx) ⟨Below.refl _ _, rfl⟩⟩
            · exact .inl ⟨wanted_free rfl, necs13 (by decide) (by decide) (by decide), gp_field (.tmp 63) rfl (hk.slot 63 (by kernel_rfl)) (v := (.pointer (some ⟨(ad V.ca (k * 5)).block, (ad V.ca (k * 5)).off + 1, none⟩))) (fun w => by kernel_rfl) ⟨Below.refl _ _, rfl⟩⟩
            · exact .inl ⟨wanted_free rfl, necs13 (by decide) (by decide) (by decide), gp_load (.tmp 64) rfl (hk.slot 64 (by kernel_rfl)) (v := (.int .i64 i)) ((fun (q : After _) => load_at (fun w => by kernel_rfl) (u1 q)) ⟨wx, hk.inv.1⟩) ⟨Below.refl _ _, rfl⟩⟩
            · exact .inl ⟨wanted_free rfl, necs13 (by decide) (by decide) (by decide), gp_call rfl rfl #[(.agg #[.slice V.wa V.ws.length V.wc, .slice V.pa V.ps.length V.pc, .slice V.ca V.cs.length V.cc]), (.int .i64 i)] (fun w => by kernel_rfl) (by simp only [List.map_toArray, List.map_cons, List.map_nil, show wa.eval (.tmp 59) = (.agg #[.slice V.wa V.ws.length V.wc, .slice V.pa V.ps.length V.pc, .slice V.ca V.cs.length V.cc]) from (hk.slot 59 (by kernel_rfl)), show wa.eval (.tmp 65) = (.int .i64 i) from (hk.slot 65 (by kernel_rfl))]) ((fun (q : After _) => part_tup q.to V (HV.out.stay (HBw.out.trans (q.bel.mono HBw.out.size))) hs i HQ.out HK.out) ⟨wx, hk.inv.1⟩)⟩
            · exact .inl ⟨wanted_free rfl, necs13 (by decide) (by decide) (by decide), gp_move (.tmp 66) rfl ⟨Below.refl _ _, (hk.slot 66 (by kernel_rfl))⟩⟩
            · obtain ⟨x, ex, hx⟩ := hk.slot 58 (by kernel_rfl)
              exact .inl ⟨wanted_free rfl, necs13 (by decide) (by decide) (by decide), gp_extract rfl ex rfl ⟨Below.refl _ _, x, rfl, hx⟩⟩
            · obtain ⟨x, ex, hx⟩ := hk.slot 58 (by kernel_rfl)
              exact .inl ⟨wanted_free rfl, necs13 (by decide) (by decide) (by decide), gp_extract rfl ex rfl ⟨Below.refl _ _, rfl⟩⟩
            · exact .inr (.inl ⟨0, by decide, rfl, rfl, rfl, allocP _ _ _ rfl, fun _ _ => trivial⟩)
            · obtain ⟨x, ex, hx⟩ := hk.slot 67 (by kernel_rfl)
              exact .inr (.inr ⟨0, cA x, by decide, rfl, rfl, rfl, ⟨x, rfl, hx⟩, rfl, fun g D hg hD hDs => storeP _ _ _ _ _ rfl hg ex hD hDs⟩)
            · exact .inl ⟨wanted_free rfl, necs13 (by decide) (by decide) (by decide), gp_assign (.tmp 68) rfl ⟨Below.refl _ _, (hk.slot 68 (by kernel_rfl))⟩⟩
          intro a wz hbz hsame hall hbox
          obtain ⟨p1, C1, ep1, hpl1, hC1, hX1, _⟩ := hbox 0 (by decide)
          obtain ⟨x1, rfl, hx1⟩ := hX1
          have he := act_same hsame [59, 60, 61, 62, 63, 64, 65, 66, 58, 67, 68, 8, 9] (by kernel_rfl)
          simp only [List.foldl_cons, List.foldl_nil] at he
          rw [show a.eval (.tmp 8) = _ from ep1, show a.eval (.tmp 9) = .bool true from hall 9 (by kernel_rfl)] at he
          generalize a.eval (.tmp 59) = y59 at he
          generalize a.eval (.tmp 60) = y60 at he
          generalize a.eval (.tmp 61) = y61 at he
          generalize a.eval (.tmp 62) = y62 at he
          generalize a.eval (.tmp 63) = y63 at he
          generalize a.eval (.tmp 64) = y64 at he
          generalize a.eval (.tmp 65) = y65 at he
          generalize a.eval (.tmp 66) = y66 at he
          generalize a.eval (.tmp 58) = y58 at he
          generalize a.eval (.tmp 67) = y67 at he
          generalize a.eval (.tmp 68) = y68 at he
          simp only [put_lit] at he
          dsimp only [List.set_cons_zero, List.set_cons_succ] at he
          subst he
          have HBX1 := Lib.hid (And.intro hbz (And.intro hC1 (And.intro hx1 hpl1)))
          clear hsame hall hbox ep1 hbz hC1 hx1 hpl1
          have HBw2 := Lib.hid (HBw.out.trans (HBX1.out.1.mono HBw.out.size))
          have HBB2 := Lib.hid (HBB.out.trans (HBX1.out.1.mono HBB.out.size))
          have u2 : ∀ q : After wz, _ := fun q => (HV.out.chs.stay cCh_len (HBw2.out.trans (q.bel.mono HBw2.out.size))).field k hlt 2 (by decide) rfl
          rw [← hx.out] at u2
          clear u1 c0 c1 c2
          obtain ⟨i2, hi2⟩ : ∃ i, Hid (i = x.dst.1) := ⟨_, rfl⟩
          simp only [← hi2.out] at u2
          obtain ⟨Q2, hQ2⟩ : ∃ Q, Hid (Q = getP V.ps i2) := ⟨_, rfl⟩
          have HQ2 : Hid (getP V.ps i2 = Q2) := hQ2.out.symm
          have HK2 : Hid (hasP V.ps i2 = true) := by rw [Hid, hi2.out]; exact HWI.out.2
          obtain ⟨c0, c1, c2⟩ := HI.out.keep HBw2.out
          go_upto_region 14 with fail
          refine wp_region_boxes cs14B (fun _ => isBx (Q2)) (cs14T V w.heap.size k i2 Q2) (by kernel_rfl) (by kernel_rfl) (by kernel_rfl) (fun _ _ _ _ hG hyp => cs14T_bx V w.heap.size k i2 Q2 hG hyp) (fun _ _ _ _ hG hyp => isBx_bx (fun _ _ => neUP) hG hyp) ?_ ?_ (fun j hj => by
              have : j = 0 := by have : j < 1 := hj; omega
              subst this; exact ⟨by decide, by decide⟩)
          · refine opsAll_cons ?_ (opsAll_cons ?_ (opsAll_cons ?_ (opsAll_cons ?_ (opsAll_cons ?_ (opsAll_cons ?_ (opsAll_cons ?_ (opsAll_cons ?_ (opsAll_cons ?_ (opsAll_cons ?_ (opsAll_cons ?_ (opsAll_cons ?_ (opsAll_cons ?_ (opsAll_cons ?_ opsAll_nil)))))))))))))
            all_goals intro δ wa wx hk
            · exact .inl ⟨wanted_free rfl, necs14 (by decide) (by decide) (by decide), gp_load (.tmp 1) rfl ((hk.old 1 (by kernel_rfl)).trans rfl) (v := (.agg #[.slice V.wa V.ws.length V.wc, .slice V.pa V.ps.length V.pc, .slice V.ca V.cs.length V.cc])) ((fun (q : After _) => load3 (fun w => by kernel_rfl) (fun w => by kernel_rfl) (keep q.bel c0) (keep q.bel c1) (keep q.bel c2)) ⟨wx, hk.inv.1⟩) ⟨Below.refl _ _, rfl⟩⟩
            · exact .inl ⟨wanted_free rfl, necs14 (by decide) (by decide) (by decide), gp_field (.tmp 1) rfl ((hk.old 1 (by kernel_rfl)).trans rfl) (v := (.pointer (some ⟨w.heap.size, 2, none⟩))) (fun w => by kernel_rfl) ⟨Below.refl _ _, rfl⟩⟩
            · exact .inl ⟨wanted_free rfl, necs14 (by decide) (by decide) (by decide), gp_load (.tmp 71) rfl (hk.slot 71 (by kernel_rfl)) (v := (.slice V.ca V.cs.length V.cc)) ((fun (q : After _) => load_at (fun w => by kernel_rfl) (keep q.bel c2)) ⟨wx, hk.inv.1⟩) ⟨Below.refl _ _, rfl⟩⟩
            · exact .inl ⟨wanted_free rfl, necs14 (by decide) (by decide) (by decide), gp_move (.tmp 7) rfl ⟨Below.refl _ _, ((hk.old 7 (by kernel_rfl)).trans rfl)⟩⟩
            · exact .inl ⟨wanted_free rfl, necs14 (by decide) (by decide) (by decide), gp_index (.tmp 72) (.tmp 73) rfl (hk.slot 72 (by kernel_rfl)) (hk.slot 73 (by kernel_rfl)) (v := (.pointer (some (ad V.ca (k * 5))))) (i0 wx) ⟨Below.refl _ _, rfl⟩⟩
            · exact .inl ⟨wanted_free rfl, necs14 (by decide) (by decide) (by decide), gp_field (.tmp 74) rfl (hk.slot 74 (by kernel_rfl)) (v := (.pointer (some ⟨(ad V.ca (k * 5)).block, (ad V.ca (k * 5)).off + 2, none⟩))) (fun w => by kernel_rfl) ⟨Below.refl _ _, rfl⟩⟩
            · exact .inl ⟨wanted_free rfl, necs14 (by decide) (by decide) (by decide), gp_load (.tmp 75) rfl (hk.slot 75 (by kernel_rfl)) (v := (.int .i64 i2)) ((fun (q : After _) => load_at (fun w => by kernel_rfl) (u2 q)) ⟨wx, hk.inv.1⟩) ⟨Below.refl _ _, rfl⟩⟩
            · exact .inl ⟨wanted_free rfl, necs14 (by decide) (by decide) (by decide), gp_call rfl rfl #[(.agg #[.slice V.wa V.ws.length V.wc, .slice V.pa V.ps.length V.pc, .slice V.ca V.cs.length V.cc]), (.int .i64 i2)] (fun w => by kernel_rfl) (by simp only [List.map_toArray, List.map_cons, List.map_nil, show wa.eval (.tmp 70) = (.agg #[.slice V.wa V.ws.length V.wc, .slice V.pa V.ps.length V.pc, .slice V.ca V.cs.length V.cc]) from (hk.slot 70 (by kernel_rfl)), show wa.eval (.tmp 76) = (.int .i64 i2) from (hk.slot 76 (by kernel_rfl))]) ((fun (q : After _) => part_tup q.to V (HV.out.stay (HBw2.out.trans (q.bel.mono HBw2.out.size))) hs i2 HQ2.out HK2.out) ⟨wx, hk.inv.1⟩)⟩
            · exact .inl ⟨wanted_free rfl, necs14 (by decide) (by decide) (by decide), gp_move (.tmp 77) rfl ⟨Below.refl _ _, (hk.slot 77 (by kernel_rfl))⟩⟩
            · obtain ⟨x, ex, hx⟩ := hk.slot 69 (by kernel_rfl)
              exact .inl ⟨wanted_free rfl, necs14 (by decide) (by decide) (by decide), gp_extract rfl ex rfl ⟨Below.refl _ _, x, rfl, hx⟩⟩
            · obtain ⟨x, ex, hx⟩ := hk.slot 69 (by kernel_rfl)
              exact .inl ⟨wanted_free rfl, necs14 (by decide) (by decide) (by decide), gp_extract rfl ex rfl ⟨Below.refl _ _, rfl⟩⟩
            · exact .inr (.inl ⟨0, by decide, rfl, rfl, rfl, allocP _ _ _ rfl, fun _ _ => trivial⟩)
            · obtain ⟨x, ex, hx⟩ := hk.slot 78 (by kernel_rfl)
              exact .inr (.inr ⟨0, cA x, by decide, rfl, rfl, rfl, ⟨x, rfl, hx⟩, rfl, fun g D hg hD hDs => storeP _ _ _ _ _ rfl hg ex hD hDs⟩)
            · exact .inl ⟨wanted_free rfl, necs14 (by decide) (by decide) (by decide), gp_assign (.tmp 79) rfl ⟨Below.refl _ _, (hk.slot 79 (by kernel_rfl))⟩⟩
          intro a wv hbz hsame hall hbox
          obtain ⟨p2, C2, ep2, hpl2, hC2, hX2, _⟩ := hbox 0 (by decide)
          obtain ⟨x2, rfl, hx2⟩ := hX2
          have he := act_same hsame [70, 71, 72, 73, 74, 75, 76, 77, 69, 78, 79, 10, 11] (by kernel_rfl)
          simp only [List.foldl_cons, List.foldl_nil] at he
          rw [show a.eval (.tmp 10) = _ from ep2, show a.eval (.tmp 11) = .bool true from hall 11 (by kernel_rfl)] at he
          generalize a.eval (.tmp 70) = y70 at he
          generalize a.eval (.tmp 71) = y71 at he
          generalize a.eval (.tmp 72) = y72 at he
          generalize a.eval (.tmp 73) = y73 at he
          generalize a.eval (.tmp 74) = y74 at he
          generalize a.eval (.tmp 75) = y75 at he
          generalize a.eval (.tmp 76) = y76 at he
          generalize a.eval (.tmp 77) = y77 at he
          generalize a.eval (.tmp 69) = y69 at he
          generalize a.eval (.tmp 78) = y78 at he
          generalize a.eval (.tmp 79) = y79 at he
          simp only [put_lit] at he
          dsimp only [List.set_cons_zero, List.set_cons_succ] at he
          subst he
          have HBX2 := Lib.hid (And.intro hbz (And.intro hC2 (And.intro hx2 hpl2)))
          clear hsame hall hbox ep2 hbz hC2 hx2 hpl2
          have HBw3 := Lib.hid (HBw2.out.trans (HBX2.out.1.mono HBw2.out.size))
          have HBB3 := Lib.hid (HBB2.out.trans (HBX2.out.1.mono HBB2.out.size))
          have HO3 := Lib.hid ((HO5.out.stay HBX1.out.1).stay HBX2.out.1)
          have k1 : x1.keep = Q.keep := congrArg Pt.keep HBX1.out.2.2.1.1
          have k2 : x2.keep = Q2.keep := congrArg Pt.keep HBX2.out.2.2.1.1
          have p3 : wv.cell? ⟨p1, 3, none⟩ = some (.bool Q.keep) := by rw [World.cell?, blk_stay HBX1.out.2.1 HBX2.out.1, ← k1]; rfl
          have q3 : wv.cell? ⟨p2, 3, none⟩ = some (.bool Q2.keep) := by rw [World.cell?, HBX2.out.2.1, ← k2]; rfl
          clear u2 c0 c1 c2 k1 k2
          have HT : Hid (pickC (fun c => (getP V.ps c.src.1).keep && (getP V.ps c.dst.1).keep) (V.cs.take (k + 1)) = L5 ++ if Q.keep && Q2.keep then [x.id.1] else []) := by
            have e1 : (getP V.ps x.src.1).keep = Q.keep := by rw [← hi.out, HQ.out]
            have e2 : (getP V.ps x.dst.1).keep = Q2.keep := by rw [← hi2.out, HQ2.out]
            rw [Hid, HS.out, ← HL5.out, e1, e2]
          obtain ⟨b1, hb1⟩ : ∃ b, Hid (b = Q.keep) := ⟨_, rfl⟩
          obtain ⟨b2, hb2⟩ : ∃ b, Hid (b = Q2.keep) := ⟨_, rfl⟩
          rw [← hb1.out] at p3 HT
          rw [← hb2.out] at q3 HT
          obtain ⟨c0, c1, c2⟩ := HI.out.keep HBw3.out
          have v0 : wv.cell? (ad V.ca (k * 5)) = some (.int .i64 x.id.1) := by rw [hx.out]; exact (HV.out.chs.stay cCh_len HBw3.out).field0 k hlt (by decide) rfl
          cases b1 with
          | true =>
            cases b2 with
            | true =>
              go_wp2_with ((with_reducible refine wpList_vapp1 (o := ⟨some 94, .call _, _, _, _, _⟩) etI cZ_len cZ_one (y := x.id.1) (.tmp 86) (.tmp 93) (by with_unfolding_all rfl) (by with_unfolding_all rfl) HO3.out (by with_unfolding_all rfl) (by have := HL9.out; omega) HBB3.out.size (by with_unfolding_all rfl) (by with_unfolding_all rfl) ?_); intro a4 k4 w6 hO4 hg4 hn4; have HO4 := Lib.hid (And.intro hO4 (And.intro hg4 hn4)); clear hO4 hg4 hn4)
              go_roundw
              case rel => exact ⟨k + 1, a4, L5 ++ [x.id.1], k4, by simp, by go_num, by omega, HT.out.symm, HO4.out.1, HBB3.out.trans (HO3.out.grown HO4.out.2.1 HBB3.out.size)⟩
              case measure => simp [intOf]; omega
            | false =>
              go_wp2_with fail
              go_roundw
              case rel => exact ⟨k + 1, a5, L5, c5, rfl, by go_num, by omega, by rw [Hid, HT.out]; simp, HO3.out, HBB3.out⟩
              case measure => simp [intOf]; omega
          | false =>
            go_wp2_with fail
            go_roundw
            case rel => exact ⟨k + 1, a5, L5, c5, rfl, by go_num, by omega, by rw [Hid, HT.out]; simp, HO3.out, HBB3.out⟩
            case measure => simp [intOf]; omega
        · have hk2 : k = V.cs.length := by omega
          have HL3 : Hid (chansK V V = L5) := by rw [Hid, chans_self GO.out, HL5.out, hk2, List.take_length]
          subst hk2
          have hA := HV.out.stay HBw.out
          have hkc := ccheck_calls wr V V hA hA hs hs
          rw [check_self GO.out] at hkc
          have HK1 := Lib.hid hkc
          have HOl := Lib.hid (And.intro (HOl.out.1.stay cZ_len HBB.out) (And.intro (HOl.out.2.stay cZ_len HBB.out) (HO5.out.vec cZ_len)))
          clear hA hkc HBB HO5
          go_wp2_with fail
          refine (HK1.out).mono ?_
          rintro e w5 ⟨rfl, hb5⟩
          have HB5 := Lib.hid (HBw.out.trans (hb5.mono HBw.out.size))
          have HO5 := Lib.hid (And.intro (HOl.out.1.stay cZ_len hb5) (And.intro (HOl.out.2.1.stay cZ_len hb5) (HOl.out.2.2.stay cZ_len hb5)))
          clear hb5 c0 c1 c2 HK1 HOl
          obtain ⟨c0, c1, c2⟩ := HI.out.keep HB5.out
          have hA := HV.out.stay HB5.out
          have HK1 := Lib.hid (ints_eq (cparts_calls w5 V V hA hA hs hs) HL1.out)
          clear hA
          go_wp2_with fail
          refine (HK1.out).mono ?_
          rintro e w6 ⟨aa, cc, rfl, hv, hb5⟩
          have HB6 := Lib.hid (HB5.out.trans (hb5.mono HB5.out.size))
          have HO6 := Lib.hid (And.intro (HO5.out.1.stay cZ_len hb5) (And.intro (HO5.out.2.1.stay cZ_len hb5) (HO5.out.2.2.stay cZ_len hb5)))
          have HK2 := Lib.hid (same_eq w6 aa a L cc c hv HO6.out.1)
          clear hb5 hv c0 c1 c2 HK1
          go_wp2_with fail
          refine (HK2.out).mono ?_
          rintro e w7 ⟨rfl, hb5⟩
          have HB7 := Lib.hid (HB6.out.trans (hb5.mono HB6.out.size))
          have HO7 := Lib.hid (And.intro (HO6.out.1.stay cZ_len hb5) (And.intro (HO6.out.2.1.stay cZ_len hb5) (HO6.out.2.2.stay cZ_len hb5)))
          clear hb5 HK2
          obtain ⟨c0, c1, c2⟩ := HI.out.keep HB7.out
          have hA := HV.out.stay HB7.out
          have HK1 := Lib.hid (ints_eq (cleav_calls w7 V V hA hA hs hs) HL2.out)
          clear hA
          go_wp2_with fail
          refine (HK1.out).mono ?_
          rintro e w8 ⟨aa, cc, rfl, hv, hb5⟩
          have HB8 := Lib.hid (HB7.out.trans (hb5.mono HB7.out.size))
          have HO8 := Lib.hid (And.intro (HO7.out.1.stay cZ_len hb5) (And.intro (HO7.out.2.1.stay cZ_len hb5) (HO7.out.2.2.stay cZ_len hb5)))
          have HK2 := Lib.hid (same_eq w8 aa a' L' cc c' hv HO8.out.2.1)
          clear hb5 hv c0 c1 c2 HK1
          go_wp2_with fail
          refine (HK2.out).mono ?_
          rintro e w9 ⟨rfl, hb5⟩
          have HB9 := Lib.hid (HB8.out.trans (hb5.mono HB8.out.size))
          have HO9 := Lib.hid (And.intro (HO8.out.1.stay cZ_len hb5) (And.intro (HO8.out.2.1.stay cZ_len hb5) (HO8.out.2.2.stay cZ_len hb5)))
          clear hb5 HK2
          obtain ⟨c0, c1, c2⟩ := HI.out.keep HB9.out
          have hA := HV.out.stay HB9.out
          have HK1 := Lib.hid (ints_eq (cchans_calls w9 V V hA hA hs hs) HL3.out)
          clear hA
          go_wp2_with fail
          refine (HK1.out).mono ?_
          rintro e w10 ⟨aa, cc, rfl, hv, hb5⟩
          have HB10 := Lib.hid (HB9.out.trans (hb5.mono HB9.out.size))
          have HO10 := Lib.hid (And.intro (HO9.out.1.stay cZ_len hb5) (And.intro (HO9.out.2.1.stay cZ_len hb5) (HO9.out.2.2.stay cZ_len hb5)))
          have HK2 := Lib.hid (same_eq w10 aa a5 L5 cc c5 hv HO10.out.2.2)
          clear hb5 hv c0 c1 c2 HK1
          go_wp2_with fail
          refine (HK2.out).mono ?_
          rintro e w11 ⟨rfl, hb5⟩
          have HB11 := Lib.hid (HB10.out.trans (hb5.mono HB10.out.size))
          have HO11 := Lib.hid (And.intro (HO10.out.1.stay cZ_len hb5) (And.intro (HO10.out.2.1.stay cZ_len hb5) (HO10.out.2.2.stay cZ_len hb5)))
          clear hb5 HK2
          have HAW := Lib.hid (awake13_calls w11)
          go_wp2_with fail
          refine (HAW.out).mono ?_
          rintro e w12 ⟨rfl, hb12⟩
          have HB12 := Lib.hid (HB11.out.trans (hb12.mono HB11.out.size))
          clear hb12 HAW
          go_wp2_with fail
          go_ret
          exact ⟨rfl, HB0.out.trans (HB12.out.mono HB0.out.size)⟩
theorem compatSelf_law (w : World) (V : CfgV) (h : V.At w) (hb : ∀ x ∈ V.ps, x.img.length ≤ 140737488351232) : Calls Try.prog 10 #[.agg (cCfg V).toArray] w fun e w' => e = .returned (.bool true) ∧ Below w.heap.size w w' := by
  cases hg : greatV V with
  | true => exact compatSelf_out w V h hb (.inl hg)
  | false =>
    by_cases he : errs V = []
    · exact compatSelf_in w V h hb hg he
    · exact compatSelf_out w V h hb (.inr he)
end Go.Proofs.Ytpnbaapjjchlbaa
