/- Chapter 15's law: same: walked. -/
import Derived.Test.YtofagofpeedfcaaGreatSlotA
import Derived.Test.YtofagofpeedfcaaGreatGg
import Derived.Test.YtofagofpeedfcaaGreatGpMore
namespace Go.Proofs.YtofagofpeedfcaaGreat
open Go Go.RowKit Go.Cit

def tR (L : List UInt8) (v : Value) (w : World) : Prop := ∃ a c, v = .slice a L.length c ∧ Row w a L c
theorem tR_stay {L : List UInt8} {v : Value} {w1 w2 : World} (hb : Below w1.heap.size w1 w2) (h : tR L v w1) : tR L v w2 := by
  obtain ⟨a, c, h1, h2⟩ := h
  exact ⟨a, c, h1, h2.stay hb⟩
theorem rsame_self (w : World) (a0 a1 : Option Addr) (l : List UInt8) (c0 c1 : Nat) (h0 : Row w a0 l c0) (h1 : Row w a1 l c1) :
    Calls Tryz.prog 12 #[.slice a0 l.length c0, .slice a1 l.length c1] w fun e w' => e = .returned (.bool true) ∧ Below w.heap.size w w' :=
  (same_calls w a0 a1 l l c0 c1 h0 h1).mono fun e w' ⟨h2, h3⟩ => ⟨by rw [h2, ordB_self], h3.below _⟩
theorem neq_self (E : Int) (w : World) : (binOp .neq 3 (.int .i64 E) (.int .i64 E)).run Tryz.prog w = .ok (.bool false) w := by
  go_simp
def smT (b rb lb k n cc : Nat) (X Y : List UInt8) (a3 a4 fa : Option Addr) (c3 c4 fc : Nat) (E : Int) : Nat → Value → World → Prop
  | 67 => fun v _ => v = (.int .i64 E)
  | 68 => fun v _ => v = (.int .i64 E)
  | 69 => fun v _ => v = (.bool false)
  | 70 => fun v _ => v = (.bool false)
  | 71 => fun v _ => v = (.slice a3 X.length c3)
  | 72 => fun v _ => v = (.slice a4 X.length c4)
  | 73 => fun v _ => v = (.bool true)
  | 74 => fun v _ => v = (.bool false)
  | 75 => fun v _ => v = (.bool false)
  | 76 => fun v _ => v = (.bool false)
  | 77 => fun v _ => v = (.pointer (some ⟨b, 0, none⟩))
  | 78 => fun v _ => v = (.int .i64 (k : Int))
  | 79 => tR (Y)
  | 80 => fun v _ => v = (.pointer (some ⟨rb, 0, none⟩))
  | 81 => fun v _ => v = (.pointer (some ⟨rb, 0, none⟩))
  | 82 => fun v _ => v = (.pointer (some ⟨rb, 0, none⟩))
  | 83 => fun v _ => v = (.slice (some ⟨lb, 0, none⟩) n cc)
  | 84 => fun v _ => v = (.int .i64 (k : Int))
  | 85 => fun v _ => v = (.pointer (some ⟨lb, k * 2, none⟩))
  | 86 => fun v _ => v = (.pointer (some ⟨lb, k * 2, none⟩))
  | 87 => fun v _ => v = (.slice fa Y.length fc)
  | 88 => fun v _ => v = (.bool true)
  | 89 => fun v _ => v = (.bool false)
  | 90 => fun v _ => v = (.bool false)
  | _ => fun _ _ => True
theorem smT_stay (b rb lb k n cc : Nat) (X Y : List UInt8) (a3 a4 fa : Option Addr) (c3 c4 fc : Nat) (E : Int) : ∀ d v w1 w2, Below w1.heap.size w1 w2 → smT b rb lb k n cc X Y a3 a4 fa c3 c4 fc E d v w1 → smT b rb lb k n cc X Y a3 a4 fa c3 c4 fc E d v w2 := by
  intro d v w1 w2 hb h
  unfold smT at h ⊢
  split at h <;> first | exact h | exact tR_stay hb h | trivial
set_option maxRecDepth 100000 in
set_option maxHeartbeats 4000000 in
theorem same15_calls (w : World) (p : Pl) (r : Rl) (D : Dk) (h : Pair w p r D) :
    Calls Tryz.prog 8 #[.pointer (some ⟨p.b, 0, none⟩), .pointer (some ⟨r.b, 0, none⟩)] w fun e w' => e = .returned (.bool true) ∧ Below w.heap.size w w' := by
  have hd := dirty_calls w p D h.d
  have HH := Lib.hid h
  have hfew := h.d.ok.few
  clear h
  go_enter Tryz.func8, Tryz.ntmps8
  go_wp2_with fail
  refine (hd).mono ?_
  rintro e w2 ⟨a1, c1, rfl, hO1, hb2⟩
  have H2 := Lib.hid (HH.out.stay hb2)
  have hd2 := rdirty_calls w2 r D H2.out.r
  have HB2 := Lib.hid hb2
  have HO1 := Lib.hid hO1
  clear hb2 hO1 hd
  go_wp2_with fail
  refine (hd2).mono ?_
  rintro e w3 ⟨a2, c2, rfl, hO2, hb3⟩
  have H3 := Lib.hid (H2.out.stay hb3)
  have HB3 := Lib.hid (HB2.out.trans (hb3.mono HB2.out.size))
  have HV1 := Lib.hid ((HO1.out.vec (fun _ => rfl)).stay (fun _ => rfl) hb3)
  have HV2 := Lib.hid (hO2.vec (fun _ => rfl))
  have HUP : Hid (∀ q : After w3, Calls Tryz.prog 28 #[.pointer (some ⟨p.b, 0, none⟩)] q.to fun e w' => e = .returned (.bool D.up) ∧ Below q.to.heap.size q.to w') := fun q => (up_calls q.to p D (H3.out.d.stay q.bel)).mono fun e w' ⟨h1, h2⟩ => ⟨h1, by rw [h2]; exact Below.refl _ _⟩
  obtain ⟨_, r1⟩ := H3.out.r.cells
  have q1 : ∀ q : After w3, q.to.cell? ⟨r.b, 1, none⟩ = some (.bool (!D.up)) := fun q => After.cell r1 q
  have tu : (D.up == !D.up) = false := by cases D.up <;> rfl
  have hdl : (dirtyI D.C).length ≤ 1024 := by
    have h1 := dirtyL_len D.C
    have h2 := HH.out.d.ok.len
    rw [dirtyI, List.length_map]; omega
  clear hb3 hO2 hd2 r1 HO1
  go_upto_region 2 with fail
  generalize D.up = u at *
  refine wp_region_after (by kernel_rfl) (by kernel_rfl) ?_
  iterate 14
    refine wq_step (fun K hK => ?_)
    go_simp
    first
      | (refine hK _ ?_; clear hK K)
      | (apply Exists.intro
         refine ⟨fun _ => ?_, hK _ ?_⟩
         first | with_reducible exact after_calls (HUP.out _)
         clear hK K)
  refine wq_nil ?_
  intro w4 hw'
  obtain ⟨⟨_, hb4⟩, hw'⟩ := hw'
  subst hw'
  have H4 := Lib.hid (H3.out.stay hb4)
  have HB4 := Lib.hid (HB3.out.trans (hb4.mono HB3.out.size))
  have HW1 := Lib.hid (HV1.out.stay (fun _ => rfl) hb4)
  have HW2 := Lib.hid (HV2.out.stay (fun _ => rfl) hb4)
  clear hb4 HUP q1 tu HV1 HV2
  go_wp2_with fail
  go_loopw [7] (fun i wr => ∃ k : Nat, k ≤ (dirtyI D.C).length ∧ i = .int .i64 (k : Int) ∧ Hid (Below w4.heap.size w4 wr)) (fun i _ => (dirtyI D.C).length - (intOf i).toNat)
  case atStart => exact ⟨0, Nat.zero_le _, rfl, Below.refl _ _⟩
  case round =>
    obtain ⟨k, hk, rfl, HK⟩ := hrel
    by_cases hlt : k < (dirtyI D.C).length
    · have i1 := HW1.out.index1 etZ k hlt
      have i2 := HW2.out.index1 etZ k hlt
      have g1 : ∀ q : After wr, q.to.cell? (ad a1 k) = some (.int .i64 (dirtyI D.C)[k]) := fun q => After.cell ((HW1.out.stay (fun _ => rfl) HK.out).cell1 k hlt) q
      have g2 : ∀ q : After wr, q.to.cell? (ad a2 k) = some (.int .i64 (dirtyI D.C)[k]) := fun q => After.cell ((HW2.out.stay (fun _ => rfl) HK.out).cell1 k hlt) q
      generalize (dirtyI D.C)[k] = v at g1 g2
      go_upto_region 7 with fail
      refine wp_region_after (by kernel_rfl) (by kernel_rfl) ?_
      iterate 9
        refine wq_step (fun K hK => ?_)
        go_simp
        refine hK _ ?_
        clear hK K
      refine wq_nil ?_
      intro w5 hw'
      obtain ⟨⟨_, hb5⟩, hw'⟩ := hw'
      subst hw'
      have HK5 := Lib.hid (HK.out.trans (hb5.mono HK.out.size))
      clear hb5 g1 g2 i1 i2
      go_wp2_with fail
      go_roundw
      case rel => exact ⟨k + 1, hlt, by go_num, HK5⟩
      case measure => simp [intOf]; omega
    · go_wp2_with fail
      have H5 := Lib.hid (H4.out.stay HK.out)
      have HB5 := Lib.hid (HB4.out.trans (HK.out.mono HB4.out.size))
      clear hlt HW1 HW2 hk
      obtain ⟨wa, hwa⟩ : ∃ wa, wa = wr := ⟨_, rfl⟩
      subst hwa
      go_loopw [8] (fun i wq => ∃ k : Nat, k ≤ D.S.length ∧ i = .int .i64 (k : Int) ∧ Hid (Below wa.heap.size wa wq)) (fun i _ => D.S.length - (intOf i).toNat)
      case atStart => exact ⟨0, Nat.zero_le _, rfl, Below.refl _ _⟩
      case round =>
        obtain ⟨k, hk, rfl, HK⟩ := hrel
        obtain ⟨wv, hwv⟩ : ∃ wv, wv = wr := ⟨_, rfl⟩
        subst hwv
        have H6 := Lib.hid (H5.out.stay HK.out)
        obtain ⟨⟨cc, r0⟩, _⟩ := H6.out.r.cells
        by_cases hlt : k < D.S.length
        · have hr1 := read_calls wv p D H6.out.d k
          obtain ⟨X, hX⟩ : ∃ l, Hid (l = readR D k) := ⟨_, rfl⟩
          obtain ⟨E, hE⟩ : ∃ E, Hid (E = readE D k) := ⟨_, rfl⟩
          rw [← hX.out, ← hE.out] at hr1
          have HLT := Lib.hid hlt
          go_wp2_with fail
          refine (hr1).mono ?_
          rintro e wb ⟨a3, c3, rfl, hM3, hb3⟩
          have H7 := Lib.hid (H6.out.stay hb3)
          have hr2 := rread_calls wb r D H7.out.r k
          rw [← hX.out, ← hE.out] at hr2
          have HM3 := Lib.hid hM3.row
          have HB7 := Lib.hid hb3
          clear hM3 hb3 hr1
          go_wp2_with fail
          refine (hr2).mono ?_
          rintro e wc ⟨a4, c4, rfl, hO4, hb4⟩
          have H8 := Lib.hid (H7.out.stay hb4)
          have HM4 := Lib.hid (HM3.out.stay hb4)
          have HO4 := Lib.hid hO4.isRow
          have HB8 := Lib.hid (HB7.out.trans (hb4.mono HB7.out.size))
          obtain ⟨fa, fc, f1, f2⟩ := H8.out.r.flushed k hlt
          generalize hY0 : D.S[k] = Y at f1 f2
          have hY : Hid (Y = D.S[k]) := hY0.symm
          clear hY0
          have HF1 := Lib.hid f1
          have HF2 := Lib.hid f2
          have R0 := Lib.hid (keep HB8.out r0)
          have IX := Lib.hid (fun w => ro_index r.lb D.S.length cc k hlt w)
          have HFL : Hid (∀ q : After wc, Calls Tryz.prog 31 #[.pointer (some ⟨p.b, 0, none⟩), .int .i64 (k : Int)] q.to fun e w' => ∃ a c, e = .returned (.slice a Y.length c) ∧ Row w' a Y c ∧ Below q.to.heap.size q.to w') := fun q =>
            (flushed_calls q.to p D (H8.out.d.stay q.bel) k).mono fun e w' ⟨a, c, h1, h2, h3⟩ => by
              rw [show flushedR D (k : Int) = Y by rw [flushedR, if_pos ⟨by omega, by omega⟩, Int.toNat_natCast, List.getElem?_eq_getElem HLT.out, hY.out]; rfl] at h1 h2
              exact ⟨a, c, h1, h2.isRow, h3⟩
          clear hO4 hb4 hr2 f1 f2 r0
          go_upto_region 14 with fail
          clear hlt
          refine wp_region_tyg (smT p.b r.b r.lb k D.S.length cc X Y a3 a4 fa c3 c4 fc E) (by kernel_rfl) (by kernel_rfl) (smT_stay p.b r.b r.lb k D.S.length cc X Y a3 a4 fa c3 c4 fc E) ?_ ?_
          · refine opsAll_cons ?_ (opsAll_cons ?_ (opsAll_cons ?_ (opsAll_cons ?_ (opsAll_cons ?_ (opsAll_cons ?_ (opsAll_cons ?_ (opsAll_cons ?_ (opsAll_cons ?_ (opsAll_cons ?_ (opsAll_cons ?_ (opsAll_cons ?_ (opsAll_cons ?_ (opsAll_cons ?_ (opsAll_cons ?_ (opsAll_cons ?_ (opsAll_cons ?_ (opsAll_cons ?_ (opsAll_cons ?_ (opsAll_cons ?_ (opsAll_cons ?_ (opsAll_cons ?_ (opsAll_cons ?_ (opsAll_cons ?_ opsAll_nil)))))))))))))))))))))))
            all_goals intro a wx hk
            · exact .inl ⟨wanted_free rfl, gp_move (.tmp 10) rfl ⟨Below.refl _ _, (hk.old 10 (by kernel_rfl)).trans rfl⟩⟩
            · exact .inl ⟨wanted_free rfl, gp_move (.tmp 12) rfl ⟨Below.refl _ _, (hk.old 12 (by kernel_rfl)).trans rfl⟩⟩
            · exact .inl ⟨wanted_free rfl, gp_bin rfl (show a.eval (.tmp 67) = (.int .i64 E) from hk.slot 67 (by kernel_rfl)) (show a.eval (.tmp 68) = (.int .i64 E) from hk.slot 68 (by kernel_rfl)) (v := .bool false) (fun w => neq_self E w) ⟨Below.refl _ _, rfl⟩⟩
            · exact .inl ⟨wanted_free rfl, gp_move (.tmp 69) rfl ⟨Below.refl _ _, hk.slot 69 (by kernel_rfl)⟩⟩
            · exact .inl ⟨wanted_by 70 false (by kernel_rfl) (show a.eval (.tmp 70) = .bool false from hk.slot 70 (by kernel_rfl)), gp_move (.tmp 9) rfl ⟨Below.refl _ _, (hk.old 9 (by kernel_rfl)).trans rfl⟩⟩
            · exact .inl ⟨wanted_by 70 false (by kernel_rfl) (show a.eval (.tmp 70) = .bool false from hk.slot 70 (by kernel_rfl)), gp_move (.tmp 11) rfl ⟨Below.refl _ _, (hk.old 11 (by kernel_rfl)).trans rfl⟩⟩
            · exact .inl ⟨wanted_by 70 false (by kernel_rfl) (show a.eval (.tmp 70) = .bool false from hk.slot 70 (by kernel_rfl)), gp_call rfl (hk.fn _) #[.slice a3 X.length c3, .slice a4 X.length c4] (fun w => by kernel_rfl) (by simp only [List.map_toArray, List.map_cons, List.map_nil, (show a.eval (.tmp 71) = (.slice a3 X.length c3) from hk.slot 71 (by kernel_rfl)), (show a.eval (.tmp 72) = (.slice a4 X.length c4) from hk.slot 72 (by kernel_rfl))]) (((fun (q : After _) => rsame_self q.to a3 a4 X c3 c4 (HM4.out.stay q.bel) (HO4.out.stay q.bel)) ⟨wx, hk.below⟩).mono fun e w' ⟨he, hb⟩ => ⟨_, he, hb, rfl⟩)⟩
            · exact .inl ⟨wanted_by 70 false (by kernel_rfl) (show a.eval (.tmp 70) = .bool false from hk.slot 70 (by kernel_rfl)), gp_not rfl true (show a.eval (.tmp 73) = (.bool true) from hk.slot 73 (by kernel_rfl)) ⟨Below.refl _ _, rfl⟩⟩
            · exact .inl ⟨wanted_free rfl, gp_pick rfl false (show a.eval (.tmp 70) = (.bool false) from hk.slot 70 (by kernel_rfl)) ⟨Below.refl _ _, (show a.eval (.tmp 74) = (.bool false) from hk.slot 74 (by kernel_rfl))⟩⟩
            · exact .inl ⟨wanted_free rfl, gp_move (.tmp 75) rfl ⟨Below.refl _ _, hk.slot 75 (by kernel_rfl)⟩⟩
            · exact .inl ⟨wanted_by 76 false (by kernel_rfl) (show a.eval (.tmp 76) = .bool false from hk.slot 76 (by kernel_rfl)), gp_move (.tmp 0) rfl ⟨Below.refl _ _, (hk.old 0 (by kernel_rfl)).trans rfl⟩⟩
            · exact .inl ⟨wanted_by 76 false (by kernel_rfl) (show a.eval (.tmp 76) = .bool false from hk.slot 76 (by kernel_rfl)), gp_move (.tmp 8) rfl ⟨Below.refl _ _, (hk.old 8 (by kernel_rfl)).trans rfl⟩⟩
            · exact .inl ⟨wanted_by 76 false (by kernel_rfl) (show a.eval (.tmp 76) = .bool false from hk.slot 76 (by kernel_rfl)), gp_call rfl (hk.fn _) #[.pointer (some ⟨p.b, 0, none⟩), .int .i64 (k : Int)] (fun w => by kernel_rfl) (by simp only [List.map_toArray, List.map_cons, List.map_nil, (show a.eval (.tmp 77) = (.pointer (some ⟨p.b, 0, none⟩)) from hk.slot 77 (by kernel_rfl)), (show a.eval (.tmp 78) = (.int .i64 (k : Int)) from hk.slot 78 (by kernel_rfl))]) (((fun (q : After _) => HFL.out q) ⟨wx, hk.below⟩).mono fun e w' ⟨b, c, he, hv, hb⟩ => ⟨_, he, hb, b, c, rfl, hv⟩)⟩
            · exact .inl ⟨wanted_by 76 false (by kernel_rfl) (show a.eval (.tmp 76) = .bool false from hk.slot 76 (by kernel_rfl)), gp_move (.tmp 1) rfl ⟨Below.refl _ _, (hk.old 1 (by kernel_rfl)).trans rfl⟩⟩
            · exact .inl ⟨wanted_by 76 false (by kernel_rfl) (show a.eval (.tmp 76) = .bool false from hk.slot 76 (by kernel_rfl)), gp_nil (.tmp 80) rfl (hk.slot 80 (by kernel_rfl)) ⟨Below.refl _ _, rfl⟩⟩
            · exact .inl ⟨wanted_by 76 false (by kernel_rfl) (show a.eval (.tmp 76) = .bool false from hk.slot 76 (by kernel_rfl)), gp_field (.tmp 81) rfl (show a.eval (.tmp 81) = (.pointer (some ⟨r.b, 0, none⟩)) from hk.slot 81 (by kernel_rfl)) (v := .pointer (some ⟨r.b, 0, none⟩)) (fun w => by kernel_rfl) ⟨Below.refl _ _, rfl⟩⟩
            · exact .inl ⟨wanted_by 76 false (by kernel_rfl) (show a.eval (.tmp 76) = .bool false from hk.slot 76 (by kernel_rfl)), gp_load (.tmp 82) rfl (show a.eval (.tmp 82) = (.pointer (some ⟨r.b, 0, none⟩)) from hk.slot 82 (by kernel_rfl)) ((fun (q : After _) => load_at (fun w => by kernel_rfl) (keep q.bel R0.out)) ⟨wx, hk.below⟩) ⟨Below.refl _ _, rfl⟩⟩
            · exact .inl ⟨wanted_by 76 false (by kernel_rfl) (show a.eval (.tmp 76) = .bool false from hk.slot 76 (by kernel_rfl)), gp_move (.tmp 8) rfl ⟨Below.refl _ _, (hk.old 8 (by kernel_rfl)).trans rfl⟩⟩
            · exact .inl ⟨wanted_by 76 false (by kernel_rfl) (show a.eval (.tmp 76) = .bool false from hk.slot 76 (by kernel_rfl)), gp_index (.tmp 83) (.tmp 84) rfl (hk.slot 83 (by kernel_rfl)) (hk.slot 84 (by kernel_rfl)) (v := .pointer (some ⟨r.lb, k * 2, none⟩)) (IX.out wx) ⟨Below.refl _ _, rfl⟩⟩
            · exact .inl ⟨wanted_by 76 false (by kernel_rfl) (show a.eval (.tmp 76) = .bool false from hk.slot 76 (by kernel_rfl)), gp_field (.tmp 85) rfl (show a.eval (.tmp 85) = (.pointer (some ⟨r.lb, k * 2, none⟩)) from hk.slot 85 (by kernel_rfl)) (v := .pointer (some ⟨r.lb, k * 2, none⟩)) (fun w => by kernel_rfl) ⟨Below.refl _ _, rfl⟩⟩
            · exact .inl ⟨wanted_by 76 false (by kernel_rfl) (show a.eval (.tmp 76) = .bool false from hk.slot 76 (by kernel_rfl)), gp_load (.tmp 86) rfl (show a.eval (.tmp 86) = (.pointer (some ⟨r.lb, k * 2, none⟩)) from hk.slot 86 (by kernel_rfl)) ((fun (q : After _) => load_at (fun w => by kernel_rfl) (keep q.bel HF1.out)) ⟨wx, hk.below⟩) ⟨Below.refl _ _, rfl⟩⟩
            · obtain ⟨b1, k1, e1, q1⟩ := hk.slot 79 (by kernel_rfl)
              exact .inl ⟨wanted_by 76 false (by kernel_rfl) (show a.eval (.tmp 76) = .bool false from hk.slot 76 (by kernel_rfl)), gp_call rfl (hk.fn _) #[.slice b1 Y.length k1, .slice fa Y.length fc] (fun w => by kernel_rfl) (by simp only [List.map_toArray, List.map_cons, List.map_nil, show a.eval (.tmp 79) = _ from e1, show a.eval (.tmp 87) = (.slice fa Y.length fc) from hk.slot 87 (by kernel_rfl)]) ((rsame_self wx b1 fa Y k1 fc q1 (HF2.out.stay hk.below)).mono fun e w' ⟨he, hb⟩ => ⟨_, he, hb, rfl⟩)⟩
            · exact .inl ⟨wanted_by 76 false (by kernel_rfl) (show a.eval (.tmp 76) = .bool false from hk.slot 76 (by kernel_rfl)), gp_not rfl true (show a.eval (.tmp 88) = (.bool true) from hk.slot 88 (by kernel_rfl)) ⟨Below.refl _ _, rfl⟩⟩
            · exact .inl ⟨wanted_free rfl, gp_pick rfl false (show a.eval (.tmp 76) = (.bool false) from hk.slot 76 (by kernel_rfl)) ⟨Below.refl _ _, (show a.eval (.tmp 89) = (.bool false) from hk.slot 89 (by kernel_rfl))⟩⟩
          intro a wz hbz hsame hall
          have he := act_same hsame [67, 68, 69, 70, 71, 72, 73, 74, 75, 76, 77, 78, 79, 80, 81, 82, 83, 84, 85, 86, 87, 88, 89, 90] (by kernel_rfl)
          simp only [List.foldl_cons, List.foldl_nil] at he
          rw [show a.eval (.tmp 90) = (.bool false) from hall 90 (by kernel_rfl)] at he
          generalize a.eval (.tmp 67) = y67 at he
          generalize a.eval (.tmp 68) = y68 at he
          generalize a.eval (.tmp 69) = y69 at he
          generalize a.eval (.tmp 70) = y70 at he
          generalize a.eval (.tmp 71) = y71 at he
          generalize a.eval (.tmp 72) = y72 at he
          generalize a.eval (.tmp 73) = y73 at he
          generalize a.eval (.tmp 74) = y74 at he
          generalize a.eval (.tmp 75) = y75 at he
          generalize a.eval (.tmp 76) = y76 at he
          generalize a.eval (.tmp 77) = y77 at he
          generalize a.eval (.tmp 78) = y78 at he
          generalize a.eval (.tmp 79) = y79 at he
          generalize a.eval (.tmp 80) = y80 at he
          generalize a.eval (.tmp 81) = y81 at he
          generalize a.eval (.tmp 82) = y82 at he
          generalize a.eval (.tmp 83) = y83 at he
          generalize a.eval (.tmp 84) = y84 at he
          generalize a.eval (.tmp 85) = y85 at he
          generalize a.eval (.tmp 86) = y86 at he
          generalize a.eval (.tmp 87) = y87 at he
          generalize a.eval (.tmp 88) = y88 at he
          generalize a.eval (.tmp 89) = y89 at he
          simp only [put_lit] at he
          dsimp only [List.set_cons_zero, List.set_cons_succ] at he
          subst he
          clear hsame hall
          have HB9 := Lib.hid (HB8.out.trans (hbz.mono HB8.out.size))
          clear hbz
          have hlt := HLT.out
          go_wp2_with fail
          go_roundw
          case rel => exact ⟨k + 1, hlt, by go_num, HK.out.trans (HB9.out.mono HK.out.size)⟩
          case measure => simp [intOf]; omega
        · go_wp2_with fail
          go_ret
          exact ⟨rfl, HB5.out.trans (HK.out.mono HB5.out.size)⟩
end Go.Proofs.YtofagofpeedfcaaGreat
