/- Texts of the proof, one behind the other: Awk11, StrG. No condition but those that each names. -/
import Derived.Test.YtpnbaapjjchlbaaGs
import Derived.Test.YtpnbaapjjchlbaaGpMore
import Derived.Test.YtpnbaapjjchlbaaCfgLem
/- Chapter 11's law: awake: walked. -/
namespace Go.Proofs.Ytpnbaapjjchlbaa
open Go Go.RowKit Go.Cit

def tC (K : Cfg) (v : Value) (w : World) : Prop := ∃ U : CfgV, v = .agg (cU U) ∧ U.cfg = K ∧ U.At w
theorem tC_stay {K : Cfg} {v : Value} {w1 w2 : World} (hb : Below w1.heap.size w1 w2) (h : tC K v w1) : tC K v w2 := by
  obtain ⟨U, e, hc, ha⟩ := h
  exact ⟨U, e, hc, ha.stay hb⟩
def vS : CfgV := ⟨none, [winS], 0, none, [⟨i1, ⟨i16, i32⟩, true, none, [1, 2], 0⟩], 0, none, [], 0⟩
theorem small_S : SmallV vS := small_of_len (by simp [vS]) (by simp [vS]) (by simp [vS]) (by rfl)
theorem can_S : canC cfgS11 = true := by kernel_rfl
theorem len_S : (formK cfgS11).length = 71 := by kernel_rfl
theorem print_is (w : World) (V : CfgV) (h : V.At w) (hs : SmallV V) (F : List UInt8) (n : Nat) (k : Int) (hF : printB V = F) (hn : F.length = n) (hk : printE V = k) : Calls Try.prog 46 #[.agg #[.slice V.wa V.ws.length V.wc, .slice V.pa V.ps.length V.pc, .slice V.ca V.cs.length V.cc]] w fun e w' => ∃ a' c', e = .returned (.tuple #[.slice a' n c', .int .i64 k]) ∧ Row w' a' F c' ∧ Below w.heap.size w w' := by
  subst hF hn hk
  exact (print_calls w V h hs).mono fun e w' ⟨a, c, h1, h2, h3⟩ => ⟨a, c, h1, h2.row, h3⟩
theorem parse_is (w : World) {a : Option Addr} {l : List UInt8} {c : Nat} (h : Row w a l c) (n : Nat) (hn : l.length = n) (K : Cfg) (k : Int) (hK : parK l = K) (hk : parE l = k) : Calls Try.prog 50 #[.slice a n c] w fun e w' => ∃ U : CfgV, e = .returned (.tuple #[.agg (cU U), .int .i64 k]) ∧ U.cfg = K ∧ U.At w' ∧ Below w.heap.size w w' := by
  subst hn hK hk
  exact (parse_calls w h).mono fun e w' ⟨U, h1, h2, h3, h4⟩ => ⟨U, h1, h2, h3.at, h4⟩
theorem par_yes {K : Cfg} (h : canC K = true) : parK (formK K) = K ∧ parE (formK K) = 0 := by
  unfold parK parE
  rw [(par_form h).2, (par_form h).1]
  exact ⟨rfl, rfl⟩
theorem par_no {l : List UInt8} (h : parOk l = false) : parK l = ⟨[], [], []⟩ ∧ parE l = 110 := by
  unfold parK parE
  rw [h]
  exact ⟨rfl, rfl⟩
theorem print_yes {V : CfgV} (h : canV V = true) : printB V = formK V.cfg ∧ printE V = 0 := by
  unfold printB printE
  rw [h, formV_cfg]
  exact ⟨rfl, rfl⟩
theorem part1_S (w : World) (C : CfgV) (h : C.cfg = cfgS11) (hat : C.At w) : Calls Try.prog 31 #[.agg #[.slice C.wa C.ws.length C.wc, .slice C.pa C.ps.length C.pc, .slice C.ca C.cs.length C.cc], .int .i64 1] w fun e w' => ∃ a c, e = .returned (.tuple #[.agg #[.int .i64 1, .int .i64 16, .int .i64 32, .bool true, .slice a 2 c], .bool true]) ∧ Below w.heap.size w w' := by
  refine (part_get w C hat (small_cfg (V := vS) h small_S) 1).mono ?_
  rintro e w' ⟨x, rfl, hx, _, hb⟩
  have e1 : hasP C.ps 1 = true := (hasP_cfg (U := vS) h 1).trans (by rfl)
  rw [show getP C.ps 1 = ptS from (getP_cfg (U := vS) h 1).trans (by rfl)] at hx
  obtain ⟨i, r, k, a, im, c⟩ := x
  have hx2 : i = i1 ∧ r = ⟨i16, i32⟩ ∧ k = true ∧ im = [1, 2] := by simpa [PtV.pt, ptS] using hx
  obtain ⟨rfl, rfl, rfl, rfl⟩ := hx2
  exact ⟨a, c, by rw [e1]; rfl, hb⟩
theorem chan0_S (w : World) (C : CfgV) (h : C.cfg = cfgS11) (hat : C.At w) (x : Int) : Calls Try.prog 45 #[.agg #[.slice C.wa C.ws.length C.wc, .slice C.pa C.ps.length C.pc, .slice C.ca C.cs.length C.cc], .int .i64 x] w fun e w' => e = .returned (.tuple #[.agg #[.int .i64 0, .int .i64 0, .int .i64 0, .int .i64 0, .int .i64 0], .bool false]) ∧ Below w.heap.size w w' := by
  refine (chan_get w C hat x).mono ?_
  rintro e w' ⟨rfl, hb⟩
  have hc : C.cs = [] := congrArg Cfg.chans h
  rw [hc]
  exact ⟨rfl, hb⟩
def ak5 (a1 a3 : Option Addr) (k1 k3 _ : Nat) (C : CfgV) : Nat → Value → World → Prop
  | 39 => fun v _ => v = (.int .i64 0)
  | 40 => fun v _ => v = (.bool false)
  | 41 => fun v _ => v = (.bool false)
  | 42 => fun v _ => v = (.int .i64 0)
  | 43 => fun v _ => v = (.bool false)
  | 44 => fun v _ => v = (.bool false)
  | 45 => fun v _ => v = (.bool false)
  | 46 => fun v _ => v = (.int .i64 0)
  | 47 => fun v _ => v = (.bool false)
  | 48 => fun v _ => v = (.bool false)
  | 49 => fun v _ => v = (.bool false)
  | 50 => fun v _ => v = (.int .i64 110)
  | 51 => fun v _ => v = (.bool false)
  | 52 => fun v _ => v = (.bool false)
  | 53 => fun v _ => v = (.bool false)
  | 54 => fun v _ => v = (.slice a1 24 k1)
  | 55 => fun v _ => v = (.int .i64 24)
  | 56 => fun v _ => v = (.bool false)
  | 57 => fun v _ => v = (.bool false)
  | 58 => fun v _ => v = (.bool false)
  | 59 => fun v _ => v = (.slice a3 71 k3)
  | 60 => fun v _ => v = (.int .i64 71)
  | 61 => fun v _ => v = (.bool false)
  | 62 => fun v _ => v = (.bool false)
  | 63 => fun v _ => v = (.bool false)
  | 64 => fun v _ => v = (.agg #[.slice C.wa C.ws.length C.wc, .slice C.pa C.ps.length C.pc, .slice C.ca C.cs.length C.cc])
  | 65 => tC (cfgS11)
  | 66 => fun v _ => v = (.bool true)
  | 67 => fun v _ => v = (.bool false)
  | 68 => fun v _ => v = (.bool false)
  | 69 => fun v _ => v = (.bool false)
  | 70 => fun v _ => v = (.agg #[.slice C.wa C.ws.length C.wc, .slice C.pa C.ps.length C.pc, .slice C.ca C.cs.length C.cc])
  | 71 => fun v _ => v = (.agg #[.slice none 0 0, .slice none 0 0, .slice none 0 0])
  | 72 => fun v _ => v = (.bool false)
  | 73 => fun v _ => v = (.bool false)
  | _ => fun _ _ => True
theorem ak5_stay (a1 a3 : Option Addr) (k1 k3 p : Nat) (C : CfgV) : ∀ d v w1 w2, Below w1.heap.size w1 w2 → ak5 a1 a3 k1 k3 p C d v w1 → ak5 a1 a3 k1 k3 p C d v w2 := by
  intro d v w1 w2 hb h
  unfold ak5 at h ⊢
  split at h <;> first | exact h | exact tE_stay hb h | exact tC_stay hb h | trivial
set_option maxRecDepth 100000 in
set_option maxHeartbeats 8000000 in
theorem awake11_calls (w : World) : Calls Try.prog 48 #[] w fun e w' => e = .returned (.bool true) ∧ Below w.heap.size w w' := by
  have hz := print_yes (V := vZ) (by kernel_rfl)
  obtain ⟨FZ, hFZ⟩ : ∃ F, Hid (F = formK vZ.cfg) := ⟨_, rfl⟩
  have HP1 := Lib.hid (print_is w vZ (at_Z w) small_Z FZ 24 0 (by rw [hz.1, hFZ.out]) (by rw [hFZ.out]; kernel_rfl) hz.2)
  obtain ⟨FB, hFB⟩ : ∃ F, Hid (F = formK cfgS11) := ⟨_, rfl⟩
  have hlen : Hid (FB.length = 71) := by rw [Hid, hFB.out]; exact len_S
  clear hz
  go_enter Try.func48, Try.ntmps48
  go_wp2_with fail
  refine (HP1.out).mono ?_
  rintro e w1 ⟨a1, k1, rfl, r1, hb1⟩
  have H1 := Lib.hid (And.intro r1 hb1)
  clear r1 hb1 HP1
  go_wp2_with fail
  refine (shown11_calls w1).mono ?_
  rintro e w2 ⟨S, rfl, hS, aS, hb2⟩
  have hcS : canV S = true := by rw [canV_cfg, hS]; exact can_S
  have hpS := print_yes hcS
  rw [hS] at hpS
  have HP2 := Lib.hid (print_is w2 S aS (small_cfg (V := vS) hS small_S) FB 71 0 (by rw [hpS.1, hFB.out]) hlen.out hpS.2)
  have H2 := Lib.hid (And.intro (H1.out.1.stay hb2) (H1.out.2.trans (hb2.mono H1.out.2.size)))
  clear hS aS hb2 hcS hpS H1
  go_wp2_with fail
  refine (HP2.out).mono ?_
  rintro e w3 ⟨a3, k3, rfl, r3, hb3⟩
  have hle3 := r3.le
  have htop3 := r3.top
  rw [hlen.out] at hle3
  have hpy := par_yes can_S
  rw [← hFB.out] at hpy
  have HP3 := Lib.hid (parse_is w3 r3 71 hlen.out cfgS11 0 hpy.1 hpy.2)
  have H3 := Lib.hid (And.intro (H2.out.1.stay hb3) (And.intro r3 (H2.out.2.trans (hb3.mono H2.out.2.size))))
  clear r3 hb3 hpy H2 HP2
  go_wp2_with fail
  refine (HP3.out).mono ?_
  rintro e w4 ⟨C, rfl, hC, aC, hb4⟩
  obtain ⟨w5, hw5⟩ : ∃ w5, w5 = w4.alloc (.cells (cU C) 26) := ⟨_, rfl⟩
  obtain ⟨p, hp⟩ : ∃ p, p = w4.heap.size := ⟨_, rfl⟩
  have hb5 : Below w4.heap.size w4 w5 := by rw [hw5]; exact (Below.refl _ _).alloc (Nat.le_refl _) _
  have hx5 : w5.heap[p]? = some (.cells (cU C) 26 (0, 0)) := by rw [hw5, hp]; exact heap_alloc_new _ _
  have hb35 := hb4.trans (hb5.mono hb4.size)
  have H5 := Lib.hid (And.intro (H3.out.1.stay hb35) (And.intro (H3.out.2.1.stay hb35) (And.intro (H3.out.2.2.trans (hb35.mono H3.out.2.2.size)) hx5)))
  have HC5 := Lib.hid (And.intro hC (aC.stay hb5))
  clear hC aC hb4 hb5 hx5 hb35 H3 HP3
  go_upto_region 4 with fail
  rw [← hw5, ← hp]
  clear hw5 hp
  obtain ⟨w6, hw6⟩ : ∃ w6, w6 = w5.alloc (.cells #[] 5) := ⟨_, rfl⟩
  have hb6 : Below w5.heap.size w5 w6 := by rw [hw6]; exact (Below.refl _ _).alloc (Nat.le_refl _) _
  have o6 : Cit.Own 5 w5.heap.size (w5.alloc (.cells #[] 5)) (some ⟨w5.heap.size, 0, none⟩) [] 0 := own_lit w5 #[] 5 [] rfl (by decide)
  have r6 : Row (w5.alloc (.cells #[] 5)) a3 FB k3 := H5.out.2.1.stay (hw6 ▸ hb6)
  have hs6 : w5.heap.size ≤ (w5.alloc (.cells #[] 5)).heap.size := by simp
  have HO6 := Lib.hid (And.intro o6 (And.intro r6 hs6))
  have hFne : FB ≠ [] := fun h0 => by have := hlen.out; rw [h0] at this; exact absurd this (by decide)
  have HFN := Lib.hid hFne
  clear o6 r6 hs6 hFne
  have hk35 := par_no (par_more can_S (r := [0]) (by simp) (by rw [← hFB.out, List.length_append, hlen.out]; decide))
  rw [← hFB.out] at hk35
  have HK35 := Lib.hid hk35
  have hl72 : (FB ++ [0]).length = 72 := by rw [List.length_append, hlen.out]; rfl
  have HL72 := Lib.hid hl72
  clear hk35 hl72
  go_wp2_with (first
    | ((with_reducible refine wp_append_at (o := ⟨some 33, .call _, _, _, _, _⟩) bt (.tmp 31) (.tmp 32) (by with_unfolding_all rfl) (by with_unfolding_all rfl) HO6.out.1 HO6.out.2.1 (fun h => absurd h HFN.out) (by rw [hlen.out]; decide) HO6.out.2.2 (by with_unfolding_all rfl) (by rw [hlen.out]; with_unfolding_all rfl) ?_); intro a7 c7 w7 hO7 hg7 hn7; rw [List.nil_append]; rw [List.nil_append] at hO7; have HO7 := Lib.hid (And.intro hO7 hg7); have HR35 := Lib.hid (row_new w7 #[.int .u8 0] 5 (0, 0) [0] rfl (by decide)); have HO35 := Lib.hid (hO7.alloc (.cells #[.int .u8 0] 5)); have HN35 : Hid (([0] : List UInt8) = [] → (some ⟨w7.heap.size, 0, none⟩ : Option Addr) = none) := fun h => nomatch h; have HL35 : Hid (FB.length + ([0] : List UInt8).length ≤ 1000000000) := (by rw [Hid, hlen.out]; decide); have HS35 : Hid (w5.heap.size ≤ (w7.alloc (.cells #[.int .u8 0] 5)).heap.size) := (by have h := hg7.size; rw [World.size_alloc] at h; rw [Hid, World.size_alloc]; omega); clear hO7 hg7 hn7)
    | ((with_reducible refine wpList_value (o := ⟨some 34, .buildSlice _ _ _, _, _, _, _⟩) (by with_unfolding_all rfl) (build1c etU (.const (.int .u8 0)) (.int .u8 0) #[.int .u8 0] rfl (by with_unfolding_all rfl) (by with_unfolding_all rfl) (by with_unfolding_all rfl) (by decide) _) ?_))
    | ((with_reducible refine wp_append_at (o := ⟨some 35, .call _, _, _, _, _⟩) bt (.tmp 33) (.tmp 34) (by with_unfolding_all rfl) (by with_unfolding_all rfl) HO35.out HR35.out HN35.out HL35.out HS35.out (by with_unfolding_all rfl) (by with_unfolding_all rfl) ?_); intro a8 c8 w8 hO8 hg8 hn8; rw [HL72.out]; have HO8 := Lib.hid (And.intro hO8 hg8); clear hO8 hg8 hn8))
  have hb78 : Below w5.heap.size w5 w8 := by
    have h0 := hb6.size
    rw [hw6] at h0
    have h1 := ((Below.refl _ w5).alloc (Nat.le_refl _) (.cells #[] 5)).grown HO7.out.2 h0 (fun g hg => (HO6.out.1.blk_ge hg).1)
    have h2 := h1.alloc h1.size (.cells #[.int .u8 0] 5)
    exact h2.grown HO8.out.2 h2.size (fun g hg => (HO35.out.blk_ge hg).1)
  have hr8 := HO8.out.1.isRow
  refine (parse_is w8 hr8 72 HL72.out ⟨[], [], []⟩ 110 HK35.out.1 HK35.out.2).mono ?_
  rintro e w9 ⟨C9, rfl, _, _, hb9⟩
  have hb59 := hb78.trans (hb9.mono hb78.size)
  clear hb78 hb9 hr8 HO8 HO35 HR35 HN35 HL35 HS35 HO7 HO6 HK35 hb6 hw6
  obtain ⟨wa, hwa⟩ : ∃ wa, wa = w9.alloc (.cells #[.slice C9.wa C9.ws.length C9.wc, .slice C9.pa C9.ps.length C9.pc, .slice C9.ca C9.cs.length C9.cc] 26) := ⟨_, rfl⟩
  obtain ⟨p7, hp7⟩ : ∃ p7, p7 = w9.heap.size := ⟨_, rfl⟩
  have hb9a : Below w9.heap.size w9 wa := by rw [hwa]; exact (Below.refl _ _).alloc (Nat.le_refl _) _
  have hb5a := hb59.trans (hb9a.mono hb59.size)
  have Ha := Lib.hid (And.intro (H5.out.1.stay hb5a) (And.intro (H5.out.2.1.stay hb5a) (And.intro (H5.out.2.2.1.trans (hb5a.mono H5.out.2.2.1.size)) (blk_stay H5.out.2.2.2 hb5a))))
  have HCa := Lib.hid (And.intro HC5.out.1 (HC5.out.2.stay hb5a))
  clear hb9a hb5a hb59 H5 HC5
  go_upto_region 5 with fail
  rw [← hwa, ← hp7]
  clear hwa hp7
  obtain ⟨c0, c1, c2⟩ := cU_in Ha.out.2.2.2
  refine wp_region_tyg (ak5 a1 a3 k1 k3 p C) (by kernel_rfl) (by kernel_rfl) (ak5_stay a1 a3 k1 k3 p C) ?_ ?_
  · refine opsAll_cons ?_ (opsAll_cons ?_ (opsAll_cons ?_ (opsAll_cons ?_ (opsAll_cons ?_ (opsAll_cons ?_ (opsAll_cons ?_ (opsAll_cons ?_ (opsAll_cons ?_ (opsAll_cons ?_ (opsAll_cons ?_ (opsAll_cons ?_ (opsAll_cons ?_ (opsAll_cons ?_ (opsAll_cons ?_ (opsAll_cons ?_ (opsAll_cons ?_ (opsAll_cons ?_ (opsAll_cons ?_ (opsAll_cons ?_ (opsAll_cons ?_ (opsAll_cons ?_ (opsAll_cons ?_ (opsAll_cons ?_ (opsAll_cons ?_ (opsAll_cons ?_ (opsAll_cons ?_ (opsAll_cons ?_ (opsAll_cons ?_ (opsAll_cons ?_ (opsAll_cons ?_ (opsAll_cons ?_ (opsAll_cons ?_ (opsAll_cons ?_ (opsAll_cons ?_ opsAll_nil))))))))))))))))))))))))))))))))))
    all_goals intro a wx hk
    · exact .inl ⟨wanted_free rfl, gp_move (.tmp 2) rfl ⟨Below.refl _ _, (hk.old 2 (by kernel_rfl)).trans rfl⟩⟩
    · exact .inl ⟨wanted_free rfl, gp_bin rfl (show a.eval (.tmp 39) = (.int .i64 0) from hk.slot 39 (by kernel_rfl)) rfl (v := .bool false) (fun w => by go_simp) ⟨Below.refl _ _, rfl⟩⟩
    · exact .inl ⟨wanted_free rfl, gp_move (.tmp 40) rfl ⟨Below.refl _ _, hk.slot 40 (by kernel_rfl)⟩⟩
    · exact .inl ⟨wanted_by 41 false (by kernel_rfl) (show a.eval (.tmp 41) = .bool false from hk.slot 41 (by kernel_rfl)), gp_move (.tmp 4) rfl ⟨Below.refl _ _, (hk.old 4 (by kernel_rfl)).trans rfl⟩⟩
    · exact .inl ⟨wanted_by 41 false (by kernel_rfl) (show a.eval (.tmp 41) = .bool false from hk.slot 41 (by kernel_rfl)), gp_bin rfl (show a.eval (.tmp 42) = (.int .i64 0) from hk.slot 42 (by kernel_rfl)) rfl (v := .bool false) (fun w => by go_simp) ⟨Below.refl _ _, rfl⟩⟩
    · exact .inl ⟨wanted_free rfl, gp_pick rfl false (show a.eval (.tmp 41) = (.bool false) from hk.slot 41 (by kernel_rfl)) ⟨Below.refl _ _, (show a.eval (.tmp 43) = (.bool false) from hk.slot 43 (by kernel_rfl))⟩⟩
    · exact .inl ⟨wanted_free rfl, gp_move (.tmp 44) rfl ⟨Below.refl _ _, hk.slot 44 (by kernel_rfl)⟩⟩
    · exact .inl ⟨wanted_by 45 false (by kernel_rfl) (show a.eval (.tmp 45) = .bool false from hk.slot 45 (by kernel_rfl)), gp_move (.tmp 6) rfl ⟨Below.refl _ _, (hk.old 6 (by kernel_rfl)).trans rfl⟩⟩
    · exact .inl ⟨wanted_by 45 false (by kernel_rfl) (show a.eval (.tmp 45) = .bool false from hk.slot 45 (by kernel_rfl)), gp_bin rfl (show a.eval (.tmp 46) = (.int .i64 0) from hk.slot 46 (by kernel_rfl)) rfl (v := .bool false) (fun w => by go_simp) ⟨Below.refl _ _, rfl⟩⟩
    · exact .inl ⟨wanted_free rfl, gp_pick rfl false (show a.eval (.tmp 45) = (.bool false) from hk.slot 45 (by kernel_rfl)) ⟨Below.refl _ _, (show a.eval (.tmp 47) = (.bool false) from hk.slot 47 (by kernel_rfl))⟩⟩
    · exact .inl ⟨wanted_free rfl, gp_move (.tmp 48) rfl ⟨Below.refl _ _, hk.slot 48 (by kernel_rfl)⟩⟩
    · exact .inl ⟨wanted_by 49 false (by kernel_rfl) (show a.eval (.tmp 49) = .bool false from hk.slot 49 (by kernel_rfl)), gp_move (.tmp 8) rfl ⟨Below.refl _ _, (hk.old 8 (by kernel_rfl)).trans rfl⟩⟩
    · exact .inl ⟨wanted_by 49 false (by kernel_rfl) (show a.eval (.tmp 49) = .bool false from hk.slot 49 (by kernel_rfl)), gp_bin rfl (show a.eval (.tmp 50) = (.int .i64 110) from hk.slot 50 (by kernel_rfl)) rfl (v := .bool false) (fun w => by go_simp) ⟨Below.refl _ _, rfl⟩⟩
    · exact .inl ⟨wanted_free rfl, gp_pick rfl false (show a.eval (.tmp 49) = (.bool false) from hk.slot 49 (by kernel_rfl)) ⟨Below.refl _ _, (show a.eval (.tmp 51) = (.bool false) from hk.slot 51 (by kernel_rfl))⟩⟩
    · exact .inl ⟨wanted_free rfl, gp_move (.tmp 52) rfl ⟨Below.refl _ _, hk.slot 52 (by kernel_rfl)⟩⟩
    · exact .inl ⟨wanted_by 53 false (by kernel_rfl) (show a.eval (.tmp 53) = .bool false from hk.slot 53 (by kernel_rfl)), gp_move (.tmp 1) rfl ⟨Below.refl _ _, (hk.old 1 (by kernel_rfl)).trans rfl⟩⟩
    · exact .inl ⟨wanted_by 53 false (by kernel_rfl) (show a.eval (.tmp 53) = .bool false from hk.slot 53 (by kernel_rfl)), gp_len rfl (by kernel_rfl) (show a.eval (.tmp 54) = (.slice a1 24 k1) from hk.slot 54 (by kernel_rfl)) ⟨Below.refl _ _, rfl⟩⟩
    · exact .inl ⟨wanted_by 53 false (by kernel_rfl) (show a.eval (.tmp 53) = .bool false from hk.slot 53 (by kernel_rfl)), gp_bin rfl (show a.eval (.tmp 55) = (.int .i64 24) from hk.slot 55 (by kernel_rfl)) rfl (v := .bool false) (fun w => by go_simp) ⟨Below.refl _ _, rfl⟩⟩
    · exact .inl ⟨wanted_free rfl, gp_pick rfl false (show a.eval (.tmp 53) = (.bool false) from hk.slot 53 (by kernel_rfl)) ⟨Below.refl _ _, (show a.eval (.tmp 56) = (.bool false) from hk.slot 56 (by kernel_rfl))⟩⟩
    · exact .inl ⟨wanted_free rfl, gp_move (.tmp 57) rfl ⟨Below.refl _ _, hk.slot 57 (by kernel_rfl)⟩⟩
    · exact .inl ⟨wanted_by 58 false (by kernel_rfl) (show a.eval (.tmp 58) = .bool false from hk.slot 58 (by kernel_rfl)), gp_move (.tmp 3) rfl ⟨Below.refl _ _, (hk.old 3 (by kernel_rfl)).trans rfl⟩⟩
    · exact .inl ⟨wanted_by 58 false (by kernel_rfl) (show a.eval (.tmp 58) = .bool false from hk.slot 58 (by kernel_rfl)), gp_len rfl (by kernel_rfl) (show a.eval (.tmp 59) = (.slice a3 71 k3) from hk.slot 59 (by kernel_rfl)) ⟨Below.refl _ _, rfl⟩⟩
    · exact .inl ⟨wanted_by 58 false (by kernel_rfl) (show a.eval (.tmp 58) = .bool false from hk.slot 58 (by kernel_rfl)), gp_bin rfl (show a.eval (.tmp 60) = (.int .i64 71) from hk.slot 60 (by kernel_rfl)) rfl (v := .bool false) (fun w => by go_simp) ⟨Below.refl _ _, rfl⟩⟩
    · exact .inl ⟨wanted_free rfl, gp_pick rfl false (show a.eval (.tmp 58) = (.bool false) from hk.slot 58 (by kernel_rfl)) ⟨Below.refl _ _, (show a.eval (.tmp 61) = (.bool false) from hk.slot 61 (by kernel_rfl))⟩⟩
    · exact .inl ⟨wanted_free rfl, gp_move (.tmp 62) rfl ⟨Below.refl _ _, hk.slot 62 (by kernel_rfl)⟩⟩
    · exact .inl ⟨wanted_by 63 false (by kernel_rfl) (show a.eval (.tmp 63) = .bool false from hk.slot 63 (by kernel_rfl)), gp_load (.tmp 5) rfl (show a.eval (.tmp 5) = (.pointer (some ⟨p, 0, none⟩)) from ((hk.old 5 (by kernel_rfl)).trans rfl)) ((fun (q : After _) => load3 (fun w => by kernel_rfl) (fun w => by kernel_rfl) (keep q.bel c0) (keep q.bel c1) (keep q.bel c2)) ⟨wx, hk.below⟩) ⟨Below.refl _ _, rfl⟩⟩
    · exact .inl ⟨wanted_by 63 false (by kernel_rfl) (show a.eval (.tmp 63) = .bool false from hk.slot 63 (by kernel_rfl)), gp_call rfl (hk.fn _) #[] (fun w => by kernel_rfl) (by rw [List.map_toArray]; rfl) ((shown11_calls wx).mono fun e w' ⟨U, he, hc, ha, hb⟩ => ⟨_, he, hb, U, rfl, hc, ha⟩)⟩
    · obtain ⟨S2, e65, hc, ha⟩ := hk.slot 65 (by kernel_rfl)
      exact .inl ⟨wanted_by 63 false (by kernel_rfl) (show a.eval (.tmp 63) = .bool false from hk.slot 63 (by kernel_rfl)), gp_call rfl (hk.fn _) #[.agg #[.slice C.wa C.ws.length C.wc, .slice C.pa C.ps.length C.pc, .slice C.ca C.cs.length C.cc], .agg (cU S2)] (fun w => by kernel_rfl) (by simp only [List.map_toArray, List.map_cons, List.map_nil, show a.eval (.tmp 64) = _ from hk.slot 64 (by kernel_rfl), show a.eval (.tmp 65) = _ from e65]) ((csame_calls wx C S2 (HCa.out.2.stay hk.below) ha).mono fun e w' ⟨he, hb⟩ => ⟨_, he, hb, congrArg Value.bool (decide_eq_true (HCa.out.1.trans hc.symm))⟩)⟩
    · exact .inl ⟨wanted_by 63 false (by kernel_rfl) (show a.eval (.tmp 63) = .bool false from hk.slot 63 (by kernel_rfl)), gp_not rfl true (show a.eval (.tmp 66) = (.bool true) from hk.slot 66 (by kernel_rfl)) ⟨Below.refl _ _, rfl⟩⟩
    · exact .inl ⟨wanted_free rfl, gp_pick rfl false (show a.eval (.tmp 63) = (.bool false) from hk.slot 63 (by kernel_rfl)) ⟨Below.refl _ _, (show a.eval (.tmp 67) = (.bool false) from hk.slot 67 (by kernel_rfl))⟩⟩
    · exact .inl ⟨wanted_free rfl, gp_move (.tmp 68) rfl ⟨Below.refl _ _, hk.slot 68 (by kernel_rfl)⟩⟩
    · exact .inl ⟨wanted_by 69 false (by kernel_rfl) (show a.eval (.tmp 69) = .bool false from hk.slot 69 (by kernel_rfl)), gp_load (.tmp 5) rfl (show a.eval (.tmp 5) = (.pointer (some ⟨p, 0, none⟩)) from ((hk.old 5 (by kernel_rfl)).trans rfl)) ((fun (q : After _) => load3 (fun w => by kernel_rfl) (fun w => by kernel_rfl) (keep q.bel c0) (keep q.bel c1) (keep q.bel c2)) ⟨wx, hk.below⟩) ⟨Below.refl _ _, rfl⟩⟩
    · exact .inl ⟨wanted_by 69 false (by kernel_rfl) (show a.eval (.tmp 69) = .bool false from hk.slot 69 (by kernel_rfl)), gp_run (w' := wx) (v := .agg #[.slice none 0 0, .slice none 0 0, .slice none 0 0]) (by kernel_rfl) ⟨Below.refl _ _, rfl⟩⟩
    · exact .inl ⟨wanted_by 69 false (by kernel_rfl) (show a.eval (.tmp 69) = .bool false from hk.slot 69 (by kernel_rfl)), gp_call rfl (hk.fn _) #[.agg #[.slice C.wa C.ws.length C.wc, .slice C.pa C.ps.length C.pc, .slice C.ca C.cs.length C.cc], .agg (cU vZ)] (fun w => by kernel_rfl) (by simp only [List.map_toArray, List.map_cons, List.map_nil, show a.eval (.tmp 70) = _ from hk.slot 70 (by kernel_rfl), show a.eval (.tmp 71) = _ from hk.slot 71 (by kernel_rfl)]; rfl) ((csame_calls wx C vZ (HCa.out.2.stay hk.below) (at_Z _)).mono fun e w' ⟨he, hb⟩ => ⟨_, he, hb, by rw [HCa.out.1]; exact congrArg Value.bool (decide_eq_false (by intro h; have := congrArg (fun K : Cfg => K.wins.length) h; exact absurd this (by decide)))⟩)⟩
    · exact .inl ⟨wanted_free rfl, gp_pick rfl false (show a.eval (.tmp 69) = (.bool false) from hk.slot 69 (by kernel_rfl)) ⟨Below.refl _ _, (show a.eval (.tmp 72) = (.bool false) from hk.slot 72 (by kernel_rfl))⟩⟩
  intro a wz hbz hsame hall
  have he := act_same hsame [39, 40, 41, 42, 43, 44, 45, 46, 47, 48, 49, 50, 51, 52, 53, 54, 55, 56, 57, 58, 59, 60, 61, 62, 63, 64, 65, 66, 67, 68, 69, 70, 71, 72, 73] (by kernel_rfl)
  simp only [List.foldl_cons, List.foldl_nil] at he
  rw [show a.eval (.tmp 73) = (.bool false) from hall 73 (by kernel_rfl)] at he
  generalize a.eval (.tmp 39) = y39 at he
  generalize a.eval (.tmp 40) = y40 at he
  generalize a.eval (.tmp 41) = y41 at he
  generalize a.eval (.tmp 42) = y42 at he
  generalize a.eval (.tmp 43) = y43 at he
  generalize a.eval (.tmp 44) = y44 at he
  generalize a.eval (.tmp 45) = y45 at he
  generalize a.eval (.tmp 46) = y46 at he
  generalize a.eval (.tmp 47) = y47 at he
  generalize a.eval (.tmp 48) = y48 at he
  generalize a.eval (.tmp 49) = y49 at he
  generalize a.eval (.tmp 50) = y50 at he
  generalize a.eval (.tmp 51) = y51 at he
  generalize a.eval (.tmp 52) = y52 at he
  generalize a.eval (.tmp 53) = y53 at he
  generalize a.eval (.tmp 54) = y54 at he
  generalize a.eval (.tmp 55) = y55 at he
  generalize a.eval (.tmp 56) = y56 at he
  generalize a.eval (.tmp 57) = y57 at he
  generalize a.eval (.tmp 58) = y58 at he
  generalize a.eval (.tmp 59) = y59 at he
  generalize a.eval (.tmp 60) = y60 at he
  generalize a.eval (.tmp 61) = y61 at he
  generalize a.eval (.tmp 62) = y62 at he
  generalize a.eval (.tmp 63) = y63 at he
  generalize a.eval (.tmp 64) = y64 at he
  generalize a.eval (.tmp 65) = y65 at he
  generalize a.eval (.tmp 66) = y66 at he
  generalize a.eval (.tmp 67) = y67 at he
  generalize a.eval (.tmp 68) = y68 at he
  generalize a.eval (.tmp 69) = y69 at he
  generalize a.eval (.tmp 70) = y70 at he
  generalize a.eval (.tmp 71) = y71 at he
  generalize a.eval (.tmp 72) = y72 at he
  simp only [put_lit] at he
  dsimp only [List.set_cons_zero, List.set_cons_succ] at he
  subst he
  clear hsame hall
  have HZ := Lib.hid (And.intro (Ha.out.1.stay hbz) (And.intro (Ha.out.2.1.stay hbz) (And.intro (Ha.out.2.2.1.trans (hbz.mono Ha.out.2.2.1.size)) (blk_stay Ha.out.2.2.2 hbz))))
  have HCz := Lib.hid (And.intro HCa.out.1 (HCa.out.2.stay hbz))
  clear hbz Ha HCa c0 c1 c2
  obtain ⟨a70, m, k70, hm, hrun70, r70⟩ := HZ.out.2.1.upto bt.slice bt.sz 70 (by rw [hlen.out]; decide)
  rw [hlen.out, show ((70 : Nat) : Int) = 70 from rfl] at hrun70
  have hm70 : m.length = 70 := by rw [hm, List.length_take, hlen.out]; rfl
  rw [hm70] at hrun70
  have hk70 := par_no (par_cut can_S (n := 70) (by rw [len_S]; decide))
  rw [← hFB.out, ← hm] at hk70
  have HK70 := Lib.hid (And.intro r70 (And.intro hm70 hk70))
  clear hm hm70 hk70 r70
  go_wp2_with fail
  refine (parse_is wz HK70.out.1 70 HK70.out.2.1 ⟨[], [], []⟩ 110 HK70.out.2.2.1 HK70.out.2.2.2).mono ?_
  rintro e wb ⟨C7, rfl, _, _, hbb⟩
  obtain ⟨w11, hw11⟩ : ∃ w11, w11 = wb.alloc (.cells #[.slice C7.wa C7.ws.length C7.wc, .slice C7.pa C7.ps.length C7.pc, .slice C7.ca C7.cs.length C7.cc] 26) := ⟨_, rfl⟩
  have hbn : Below wz.heap.size wz w11 := hbb.trans (show Below wz.heap.size wb w11 by rw [hw11]; exact (Below.refl _ _).alloc hbb.size _)
  have H11 := Lib.hid (And.intro (HZ.out.1.stay hbn) (And.intro (HZ.out.2.2.1.trans (hbn.mono HZ.out.2.2.1.size)) (blk_stay HZ.out.2.2.2 hbn)))
  have HC11 := Lib.hid (And.intro HCz.out.1 (HCz.out.2.stay hbn))
  clear hbb hbn HZ HCz HK70 hrun70
  obtain ⟨c0, c1, c2⟩ := cU_in H11.out.2.2
  go_upto_region 8 with fail
  rw [← hw11]
  clear hw11
  go_wp2_with fail
  refine (part1_S w11 C HC11.out.1 HC11.out.2).mono ?_
  rintro e wc ⟨ax, kx, rfl, hbc⟩
  obtain ⟨w12, hw12⟩ : ∃ w12, w12 = wc.alloc (.cells #[.int .i64 1, .int .i64 16, .int .i64 32, .bool true, .slice ax 2 kx] 43) := ⟨_, rfl⟩
  obtain ⟨p12, hp12⟩ : ∃ p12, p12 = wc.heap.size := ⟨_, rfl⟩
  have hbn : Below w11.heap.size w11 w12 := hbc.trans (show Below w11.heap.size wc w12 by rw [hw12]; exact (Below.refl _ _).alloc hbc.size _)
  have hx12 : w12.heap[p12]? = some (.cells #[.int .i64 1, .int .i64 16, .int .i64 32, .bool true, .slice ax 2 kx] 43 (0, 0)) := by rw [hw12, hp12]; exact heap_alloc_new _ _
  have H12 := Lib.hid (And.intro (H11.out.1.stay hbn) (And.intro (H11.out.2.1.trans (hbn.mono H11.out.2.1.size)) (And.intro (blk_stay H11.out.2.2 hbn) hx12)))
  have HC12 := Lib.hid (And.intro HC11.out.1 (HC11.out.2.stay hbn))
  clear hbc hbn H11 HC11 hx12 c0 c1 c2
  go_upto_region 9 with fail
  rw [← hw12, ← hp12]
  clear hw12 hp12
  obtain ⟨c0, c1, c2⟩ := cU_in H12.out.2.2.1
  go_wp2_with fail
  refine (chan0_S w12 C HC12.out.1 HC12.out.2 1).mono ?_
  rintro e wd ⟨rfl, hbd⟩
  obtain ⟨w13, hw13⟩ : ∃ w13, w13 = wd.alloc (.cells #[.int .i64 0, .int .i64 0, .int .i64 0, .int .i64 0, .int .i64 0] 54) := ⟨_, rfl⟩
  obtain ⟨p13, hp13⟩ : ∃ p13, p13 = wd.heap.size := ⟨_, rfl⟩
  have hbn : Below w12.heap.size w12 w13 := hbd.trans (show Below w12.heap.size wd w13 by rw [hw13]; exact (Below.refl _ _).alloc hbd.size _)
  have H13 := Lib.hid (And.intro (H12.out.1.stay hbn) (And.intro (H12.out.2.1.trans (hbn.mono H12.out.2.1.size)) (blk_stay H12.out.2.2.2 hbn)))
  clear hbd hbn H12 HC12 c0 c1 c2
  go_upto_region 10 with fail
  rw [← hw13, ← hp13]
  clear hw13 hp13
  have d2 : w13.cell? ⟨p12, 2, none⟩ = some (.int .i64 32) := cells_of H13.out.2.2 2 rfl
  have rZ := H13.out.1
  have hFl : 0 < FZ.length := by rw [hFZ.out]; decide
  obtain ⟨bz, oz, rfl⟩ := rZ.spot (by intro h0; rw [h0] at hFl; exact absurd hFl (by decide))
  have cZ : w13.cell? ⟨bz, oz, none⟩ = some (.int .u8 0) := by
    have h0 := rZ.cell 0 hFl
    have h1 : FZ[0] = 0 := by
      have : FZ[0]? = some 0 := by rw [hFZ.out]; rfl
      rw [List.getElem?_eq_getElem hFl] at this
      exact Option.some.inj this
    rw [h1] at h0
    exact h0
  clear rZ hFl
  go_wp2_with fail
  go_ret
  exact ⟨rfl, H13.out.2.1⟩
end Go.Proofs.Ytpnbaapjjchlbaa

/- A region that draws its order, told slot by slot: bytes to a string, equality of strings, rows of bytes as results. -/
namespace Go.Proofs.Ytpnbaapjjchlbaa
open Go Go.RowKit Go.Cit

theorem gp_conv {w : World} {o : Oper} {ρ : Operand → Value} {post : Value → World → Prop} {x : Operand} {a : Option Addr} {l : List UInt8} {n c : Nat} (h : o.op = .convert 41 9 x) (hx : ρ x = .slice a n c) (hn : l.length = n) (hr : Row w a l c) (hp : post (.string ⟨l.toArray⟩) w) :
    GivesP Try.prog post ((execOp ρ o).run Try.prog w) := by
  subst hn
  refine gp_run (v := .string ⟨l.toArray⟩) (w' := w) ?_ hp
  unfold execOp; rw [h]; dsimp only; rw [hx]
  rw [Sem.run_bind, row_str hr]; rfl
theorem eq_str {x y : Operand} (l m : List UInt8) (b : Bool) (hb : decide (l = m) = b) (w : World) : (do eqGuard .eql 9 x y (.string ⟨l.toArray⟩) (.string ⟨m.toArray⟩); binOp .eql 9 (.string ⟨l.toArray⟩) (.string ⟨m.toArray⟩) : Sem Value).run Try.prog w = .ok (.bool b) w := by
  subst hb
  by_cases h : l = m
  · subst h
    rw [decide_eq_true rfl]
    go_simp
  · rw [decide_eq_false h]
    go_simp
/-- A row of bytes, as a slot holds it. -/
def tR (L : List UInt8) (v : Value) (w : World) : Prop := ∃ a c, v = .slice a L.length c ∧ Row w a L c
theorem tR_stay {L : List UInt8} {v : Value} {w1 w2 : World} (hb : Below w1.heap.size w1 w2) (h : tR L v w1) : tR L v w2 := by
  obtain ⟨a, c, e, hr⟩ := h
  exact ⟨a, c, e, hr.stay hb⟩
theorem toCfg_img {w : World} {d : shCfg.D} (h : shCfg.ok w d) : ∀ x ∈ (toCfg d).ps, x.img.length ≤ 140737488351232 := by
  obtain ⟨_, h2, _, _⟩ := h
  intro x hx
  obtain ⟨y, hy, rfl⟩ := List.mem_map.1 hx
  obtain ⟨i, hi, rfl⟩ := List.mem_iff_getElem.1 hy
  have h3 := (h2.2.2.2.2 i hi).2
  generalize d.2.1.l[i] = z at h3
  obtain ⟨x1, ⟨x2, x3, ⟨⟩⟩, x4, ⟨a, c, l⟩, ⟨⟩⟩ := z
  obtain ⟨_, _, _, h5, _⟩ := h3
  exact Nat.le_trans h5.1.le h5.2
end Go.Proofs.Ytpnbaapjjchlbaa

