/- Texts of the proof, one behind the other: Parse2, Clone, Copy. No condition but those that each names. -/
import Derived.Test.YtlholdllibghbaaGreatG16
import Derived.Test.YtlholdllibghbaaGreatG11
import Derived.Test.YtlholdllibghbaaGreatG15
/- config.read: walked, at the three types. -/
namespace Go.Proofs.YtlholdllibghbaaGreat
open Go Go.RowKit Go.Cit

set_option maxRecDepth 100000 in
set_option maxHeartbeats 8000000 in
theorem readw_calls {base top w b s} (h : RdAt base top w b s) (htop : top ≤ w.heap.size) (g : Nat) (hg : RdVar w g b) (most : Int) (hm : 0 ≤ most ∧ most ≤ 100) : Calls Tryz.prog 133 #[.pointer (some ⟨b, 0, none⟩), .int .i64 most, .func (.func 134) #[] #[.pointer (some ⟨g, 0, none⟩)]] w fun e w' => ∃ a c, e = .returned (.slice a (readL readWin most s).1.length c) ∧ VOwn cWin 2 77 w.heap.size w' a (readL readWin most s).1 c ∧ RdAt base top w' b (readL readWin most s).2 ∧ Save (· ≠ b) w w' := by
  have hgb := hg.ne h
  have hglt := hg.lt
  have hblt := h.lt
  obtain ⟨n, hn⟩ : ∃ n : Nat, Hid ((s.count most).1 = (n : Int)) := ⟨(s.count most).1.toNat, by have := (count_range s most hm.1).1; rw [Hid]; omega⟩
  have hn9 : n ≤ 100 := by have := (count_range s most hm.1).2; have := hn.out; omega
  obtain ⟨s1, hs1⟩ : ∃ s1, Hid (s1 = (s.count most).2) := ⟨_, rfl⟩
  have hk := rdcount_calls h most
  rw [hn.out, ← hs1.out] at hk
  have HK := Lib.hid hk
  have HG := Lib.hid hg
  have HRD : Hid (readL readWin most s = readN readWin n s1) := by rw [Hid, readL, hn.out, hs1.out]; rfl
  rw [HRD.out]
  clear h hg hk
  go_enter Tryz.func133, Tryz.ntmps133
  go_wp2_with fail
  refine (HK.out).mono ?_
  rintro e w1 ⟨rfl, hR, hS⟩
  have HS1 := Lib.hid (And.intro hR (And.intro (HG.out.save hS hgb) hS))
  clear hR hS HK
  go_wp2_with fail
  go_loopw [7, 11] (fun v i wr => ∃ (k : Nat) (a : Option Addr) (L : List Win) (c : Nat), v = .slice a L.length c ∧ i = .int .i64 (k : Int) ∧ k ≤ n ∧ Hid (L = (readN readWin k s1).1) ∧ VOwn cWin 2 77 w.heap.size wr a L c ∧ RdAt base top wr b (readN readWin k s1).2 ∧ RdVar wr g b ∧ Save (· ≠ b) w wr) (fun _ i _ => n - (intOf i).toNat)
  case atStart => exact ⟨0, none, [], 0, rfl, rfl, Nat.zero_le _, rfl, VOwn.nil_ _ _ _ _ _, HS1.out.1, HS1.out.2.1, HS1.out.2.2⟩
  case round =>
    obtain ⟨k, a, L, c, rfl, rfl, hk, HL, hO, hR, hgv, hS⟩ := hrel
    by_cases hlt : k < n
    · obtain ⟨s2, hs2⟩ : ∃ s2, Hid (s2 = (readN readWin k s1).2) := ⟨_, rfl⟩
      rw [← hs2.out] at hR
      have HKC := Lib.hid (paw_calls hR (Nat.le_trans htop hS.size) g hgv)
      have HL9 : Hid (L.length ≤ 100) := by
        have := readN_len readWin k s1
        have h2 := HL.out
        rw [Hid]
        rw [← h2] at this; omega
      have HW := Lib.hid (And.intro hO (And.intro hgv hS))
      clear hO hR hgv hS
      go_wp2_with fail
      refine (HKC.out).mono ?_
      rintro e w5 ⟨rfl, hR5, hS5⟩
      have hO5 := HW.out.1.save hS5 (fun g' hg' => by have := (HW.out.1.blk_ge hg').1; omega)
      have HW5 := Lib.hid (And.intro hO5 (And.intro hR5 (And.intro (HW.out.2.1.save hS5 hgb) (HW.out.2.2.trans hS5))))
      have hsz : w.heap.size ≤ w5.heap.size := Nat.le_trans HW.out.2.2.size hS5.size
      clear hO5 hR5 hS5 HKC
      go_wp2_with (first
        | ((with_reducible refine wpList_value (o := ⟨some 16, .buildSlice _ _ _, _, _, _, _⟩) (by with_unfolding_all rfl) (build1c etW (.tmp 15) (.agg (#[.int .i64 (readWin s2).1.len.1, .int .i64 (readWin s2).1.part.1])) (#[.int .i64 (readWin s2).1.len.1, .int .i64 (readWin s2).1.part.1]) rfl (by with_unfolding_all rfl) (by with_unfolding_all rfl) (by with_unfolding_all rfl) (by decide) _) ?_))
        | ((with_reducible refine wpList_vapp1 (o := ⟨some 17, .call _, _, _, _, _⟩) etW cWin_len cWin_one (y := (readWin s2).1) (.tmp 13) (.tmp 16) (by with_unfolding_all rfl) (by with_unfolding_all rfl) HW5.out.1 (by with_unfolding_all rfl) (by have := HL9.out; omega) hsz (by with_unfolding_all rfl) (by with_unfolding_all rfl) ?_); intro a4 k4 w6 hO4 hg4 hn4; have HO4 := Lib.hid (And.intro hO4 (And.intro hg4 hn4)); clear hO4 hg4 hn4))
      have hB6 := HW5.out.1.grown HO4.out.2.1 hsz
      have hs6 : Save (· < w.heap.size) w5 w6 := ⟨hB6.os, hB6.tape, hB6.output, hB6.size, fun j _ hj => hB6.block j hj⟩
      have HN : Hid (L ++ [(readWin s2).1] = (readN readWin (k + 1) s1).1) := by rw [Hid, HL.out, readN, ← hs2.out]
      go_roundw
      case rel => exact ⟨k + 1, a4, L ++ [(readWin s2).1], k4, by simp, by go_num, by omega, HN.out, HO4.out.1, by rw [readN, ← hs2.out]; exact HW5.out.2.1.save hs6 hblt (fun g hg ht => by omega), (hs6.block g (Array.getElem?_eq_some_iff.1 HW5.out.2.2.1).1 hglt).trans HW5.out.2.2.1, ⟨hB6.os.trans HW5.out.2.2.2.os, hB6.tape.trans HW5.out.2.2.2.tape, hB6.output.trans HW5.out.2.2.2.output, Nat.le_trans HW5.out.2.2.2.size hB6.size, fun j hj hs => (hB6.block j hj).trans (HW5.out.2.2.2.block j hj hs)⟩⟩
      case measure => simp [intOf]; omega
    · have hk2 : k = n := by omega
      have HF := Lib.hid (And.intro hO (And.intro hR (And.intro hgv hS)))
      clear hO hR hgv hS
      subst hk2
      go_wp2_with fail
      go_ret
      exact ⟨a, c, by rw [← HL.out]; rfl, by rw [← HL.out]; exact HF.out.1, HF.out.2.1, HF.out.2.2.2⟩
set_option maxRecDepth 100000 in
set_option maxHeartbeats 8000000 in
theorem readp_calls {base top w b s} (h : RdAt base top w b s) (htop : top ≤ w.heap.size) (g : Nat) (hg : RdVar w g b) (most : Int) (hm : 0 ≤ most ∧ most ≤ 100) : Calls Tryz.prog 135 #[.pointer (some ⟨b, 0, none⟩), .int .i64 most, .func (.func 136) #[] #[.pointer (some ⟨g, 0, none⟩)]] w fun e w' => ∃ a c, ∃ L : List PtV, e = .returned (.slice a L.length c) ∧ L.map PtV.pt = (readL readPt most s).1 ∧ VOwn cPt 5 46 w.heap.size w' a L c ∧ (∀ x ∈ L, Row w' x.a x.img x.c ∧ (x.img ≠ [] → ∀ g, blk x.a = some g → w.heap.size ≤ g ∧ blk a ≠ some g)) ∧ RdAt base top w' b (readL readPt most s).2 ∧ Save (· ≠ b) w w' := by
  have hgb := hg.ne h
  have hglt := hg.lt
  have hblt := h.lt
  obtain ⟨n, hn⟩ : ∃ n : Nat, Hid ((s.count most).1 = (n : Int)) := ⟨(s.count most).1.toNat, by have := (count_range s most hm.1).1; rw [Hid]; omega⟩
  have hn9 : n ≤ 100 := by have := (count_range s most hm.1).2; have := hn.out; omega
  obtain ⟨s1, hs1⟩ : ∃ s1, Hid (s1 = (s.count most).2) := ⟨_, rfl⟩
  have hk := rdcount_calls h most
  rw [hn.out, ← hs1.out] at hk
  have HK := Lib.hid hk
  have HG := Lib.hid hg
  have HRD : Hid (readL readPt most s = readN readPt n s1) := by rw [Hid, readL, hn.out, hs1.out]; rfl
  rw [HRD.out]
  clear h hg hk
  go_enter Tryz.func135, Tryz.ntmps135
  go_wp2_with fail
  refine (HK.out).mono ?_
  rintro e w1 ⟨rfl, hR, hS⟩
  have HS1 := Lib.hid (And.intro hR (And.intro (HG.out.save hS hgb) hS))
  clear hR hS HK
  go_wp2_with fail
  go_loopw [7, 11] (fun v i wr => ∃ (k : Nat) (a : Option Addr) (L : List PtV) (c : Nat), v = .slice a L.length c ∧ i = .int .i64 (k : Int) ∧ k ≤ n ∧ Hid (L.map PtV.pt = (readN readPt k s1).1) ∧ VOwn cPt 5 46 w.heap.size wr a L c ∧ (∀ x ∈ L, Row wr x.a x.img x.c ∧ (x.img ≠ [] → ∀ g, blk x.a = some g → w.heap.size ≤ g ∧ blk a ≠ some g)) ∧ RdAt base top wr b (readN readPt k s1).2 ∧ RdVar wr g b ∧ Save (· ≠ b) w wr) (fun _ i _ => n - (intOf i).toNat)
  case atStart => exact ⟨0, none, [], 0, rfl, rfl, Nat.zero_le _, rfl, VOwn.nil_ _ _ _ _ _, fun x hx => by simp at hx, HS1.out.1, HS1.out.2.1, HS1.out.2.2⟩
  case round =>
    obtain ⟨k, a, L, c, rfl, rfl, hk, HL, hO, hIm, hR, hgv, hS⟩ := hrel
    by_cases hlt : k < n
    · obtain ⟨s2, hs2⟩ : ∃ s2, Hid (s2 = (readN readPt k s1).2) := ⟨_, rfl⟩
      rw [← hs2.out] at hR
      have HKC := Lib.hid (pap_calls hR (Nat.le_trans htop hS.size) g hgv)
      have HL9 : Hid (L.length ≤ 100) := by
        have := readN_len readPt k s1
        have h2 := HL.out
        rw [Hid]
        rw [← h2, List.length_map] at this; omega
      have HW := Lib.hid (And.intro hO (And.intro hgv hS))
      have HIM := Lib.hid hIm
      clear hO hR hgv hS hIm
      go_wp2_with fail
      refine (HKC.out).mono ?_
      rintro e w5 ⟨x, rfl, hx, hrow, hnew, hR5, hS5⟩
      have hO5 := HW.out.1.save hS5 (fun g' hg' => by have := (HW.out.1.blk_ge hg').1; omega)
      have HW5 := Lib.hid (And.intro hO5 (And.intro hR5 (And.intro (HW.out.2.1.save hS5 hgb) (HW.out.2.2.trans hS5))))
      have hsz : w.heap.size ≤ w5.heap.size := Nat.le_trans HW.out.2.2.size hS5.size
      have HX := Lib.hid (And.intro hx (And.intro hrow (And.intro hnew hS5)))
      clear hx hrow hnew
      clear hO5 hR5 hS5 HKC
      go_wp2_with (first
        | ((with_reducible refine wpList_value (o := ⟨some 16, .buildSlice _ _ _, _, _, _, _⟩) (by with_unfolding_all rfl) (build1c etP (.tmp 15) (.agg (cA x)) (cA x) rfl (by with_unfolding_all rfl) (by with_unfolding_all rfl) (by with_unfolding_all rfl) (by decide) _) ?_))
        | ((with_reducible refine wpList_vapp1 (o := ⟨some 17, .call _, _, _, _, _⟩) etP cPt_len cPt_one (y := x) (.tmp 13) (.tmp 16) (by with_unfolding_all rfl) (by with_unfolding_all rfl) HW5.out.1 (by with_unfolding_all rfl) (by have := HL9.out; omega) hsz (by with_unfolding_all rfl) (by with_unfolding_all rfl) ?_); intro a4 k4 w6 hO4 hg4 hn4; have HO4 := Lib.hid (And.intro hO4 (And.intro hg4 hn4)); clear hO4 hg4 hn4))
      have hB6 := HW5.out.1.grown HO4.out.2.1 hsz
      have hs6 : Save (· < w.heap.size) w5 w6 := ⟨hB6.os, hB6.tape, hB6.output, hB6.size, fun j _ hj => hB6.block j hj⟩
      have HN : Hid ((L ++ [x]).map PtV.pt = (readN readPt (k + 1) s1).1) := by rw [Hid, List.map_append, HL.out, readN, ← hs2.out, List.map_cons, List.map_nil, HX.out.1]
      have HIM2 : Hid (∀ y ∈ L ++ [x], Row w6 y.a y.img y.c ∧ (y.img ≠ [] → ∀ g, blk y.a = some g → w.heap.size ≤ g ∧ blk a4 ≠ some g)) := fun y hy => by
        have hrow5 : Row w5 y.a y.img y.c ∧ (y.img ≠ [] → ∀ g, blk y.a = some g → w.heap.size ≤ g ∧ blk a ≠ some g) := by
          rcases List.mem_append.1 hy with hy | hy
          · have hyy := HIM.out y hy
            exact ⟨hyy.1.save' HX.out.2.2.2 (fun h g' hg' => by have := (hyy.2 h g' hg').1; omega), hyy.2⟩
          · obtain rfl : y = x := by simpa using hy
            refine ⟨HX.out.2.1, fun h g' hg' => ?_⟩
            have h1 := HX.out.2.2.1 h g' hg'
            refine ⟨Nat.le_trans HW.out.2.2.size h1, fun e => ?_⟩
            have := (HW.out.1.blk_ge e).2
            omega
        refine ⟨hrow5.1.save' (Save.grown HO4.out.2.1) (fun h g' hg' e => (hrow5.2 h g' hg').2 e.symm), fun h g' hg' => ⟨(hrow5.2 h g' hg').1, fun e => ?_⟩⟩
        rcases HO4.out.2.2 g' e with h1 | h1
        · exact (hrow5.2 h g' hg').2 h1
        · obtain ⟨g2, off, e2⟩ := hrow5.1.spot h
          have h2 := hrow5.1.cell 0 (List.length_pos_iff.2 h)
          have h3 := World.block_lt_of_cell? w5 _ h2
          rw [e2] at hg' h3
          simp [blk] at hg'
          simp [ad] at h3
          omega
      go_roundw
      case rel => exact ⟨k + 1, a4, L ++ [x], k4, by simp, by go_num, by omega, HN.out, HO4.out.1, HIM2.out, by rw [readN, ← hs2.out]; exact HW5.out.2.1.save hs6 hblt (fun g hg ht => by omega), (hs6.block g (Array.getElem?_eq_some_iff.1 HW5.out.2.2.1).1 hglt).trans HW5.out.2.2.1, ⟨hB6.os.trans HW5.out.2.2.2.os, hB6.tape.trans HW5.out.2.2.2.tape, hB6.output.trans HW5.out.2.2.2.output, Nat.le_trans HW5.out.2.2.2.size hB6.size, fun j hj hs => (hB6.block j hj).trans (HW5.out.2.2.2.block j hj hs)⟩⟩
      case measure => simp [intOf]; omega
    · have hk2 : k = n := by omega
      have HF := Lib.hid (And.intro hO (And.intro hR (And.intro hgv hS)))
      have HIM := Lib.hid hIm
      clear hO hR hgv hS hIm
      subst hk2
      go_wp2_with fail
      go_ret
      exact ⟨a, c, L, rfl, HL.out, HF.out.1, HIM.out, HF.out.2.1, HF.out.2.2.2⟩
set_option maxRecDepth 100000 in
set_option maxHeartbeats 8000000 in
theorem readc_calls {base top w b s} (h : RdAt base top w b s) (htop : top ≤ w.heap.size) (g : Nat) (hg : RdVar w g b) (most : Int) (hm : 0 ≤ most ∧ most ≤ 100) : Calls Tryz.prog 138 #[.pointer (some ⟨b, 0, none⟩), .int .i64 most, .func (.func 139) #[] #[.pointer (some ⟨g, 0, none⟩)]] w fun e w' => ∃ a c, e = .returned (.slice a (readL readCh most s).1.length c) ∧ VOwn cCh 5 48 w.heap.size w' a (readL readCh most s).1 c ∧ RdAt base top w' b (readL readCh most s).2 ∧ Save (· ≠ b) w w' := by
  have hgb := hg.ne h
  have hglt := hg.lt
  have hblt := h.lt
  obtain ⟨n, hn⟩ : ∃ n : Nat, Hid ((s.count most).1 = (n : Int)) := ⟨(s.count most).1.toNat, by have := (count_range s most hm.1).1; rw [Hid]; omega⟩
  have hn9 : n ≤ 100 := by have := (count_range s most hm.1).2; have := hn.out; omega
  obtain ⟨s1, hs1⟩ : ∃ s1, Hid (s1 = (s.count most).2) := ⟨_, rfl⟩
  have hk := rdcount_calls h most
  rw [hn.out, ← hs1.out] at hk
  have HK := Lib.hid hk
  have HG := Lib.hid hg
  have HRD : Hid (readL readCh most s = readN readCh n s1) := by rw [Hid, readL, hn.out, hs1.out]; rfl
  rw [HRD.out]
  clear h hg hk
  go_enter Tryz.func138, Tryz.ntmps138
  go_wp2_with fail
  refine (HK.out).mono ?_
  rintro e w1 ⟨rfl, hR, hS⟩
  have HS1 := Lib.hid (And.intro hR (And.intro (HG.out.save hS hgb) hS))
  clear hR hS HK
  go_wp2_with fail
  go_loopw [7, 11] (fun v i wr => ∃ (k : Nat) (a : Option Addr) (L : List Ch) (c : Nat), v = .slice a L.length c ∧ i = .int .i64 (k : Int) ∧ k ≤ n ∧ Hid (L = (readN readCh k s1).1) ∧ VOwn cCh 5 48 w.heap.size wr a L c ∧ RdAt base top wr b (readN readCh k s1).2 ∧ RdVar wr g b ∧ Save (· ≠ b) w wr) (fun _ i _ => n - (intOf i).toNat)
  case atStart => exact ⟨0, none, [], 0, rfl, rfl, Nat.zero_le _, rfl, VOwn.nil_ _ _ _ _ _, HS1.out.1, HS1.out.2.1, HS1.out.2.2⟩
  case round =>
    obtain ⟨k, a, L, c, rfl, rfl, hk, HL, hO, hR, hgv, hS⟩ := hrel
    by_cases hlt : k < n
    · obtain ⟨s2, hs2⟩ : ∃ s2, Hid (s2 = (readN readCh k s1).2) := ⟨_, rfl⟩
      rw [← hs2.out] at hR
      have HKC := Lib.hid (pac_calls hR (Nat.le_trans htop hS.size) g hgv)
      have HL9 : Hid (L.length ≤ 100) := by
        have := readN_len readCh k s1
        have h2 := HL.out
        rw [Hid]
        rw [← h2] at this; omega
      have HW := Lib.hid (And.intro hO (And.intro hgv hS))
      clear hO hR hgv hS
      go_wp2_with fail
      refine (HKC.out).mono ?_
      rintro e w5 ⟨rfl, hR5, hS5⟩
      have hO5 := HW.out.1.save hS5 (fun g' hg' => by have := (HW.out.1.blk_ge hg').1; omega)
      have HW5 := Lib.hid (And.intro hO5 (And.intro hR5 (And.intro (HW.out.2.1.save hS5 hgb) (HW.out.2.2.trans hS5))))
      have hsz : w.heap.size ≤ w5.heap.size := Nat.le_trans HW.out.2.2.size hS5.size
      clear hO5 hR5 hS5 HKC
      go_wp2_with (first
        | ((with_reducible refine wpList_value (o := ⟨some 16, .buildSlice _ _ _, _, _, _, _⟩) (by with_unfolding_all rfl) (build1c etC (.tmp 15) (.agg (cA5 (readCh s2).1)) (cA5 (readCh s2).1) rfl (by with_unfolding_all rfl) (by with_unfolding_all rfl) (by with_unfolding_all rfl) (by decide) _) ?_))
        | ((with_reducible refine wpList_vapp1 (o := ⟨some 17, .call _, _, _, _, _⟩) etC cCh_len cCh_one (y := (readCh s2).1) (.tmp 13) (.tmp 16) (by with_unfolding_all rfl) (by with_unfolding_all rfl) HW5.out.1 (by with_unfolding_all rfl) (by have := HL9.out; omega) hsz (by with_unfolding_all rfl) (by with_unfolding_all rfl) ?_); intro a4 k4 w6 hO4 hg4 hn4; have HO4 := Lib.hid (And.intro hO4 (And.intro hg4 hn4)); clear hO4 hg4 hn4))
      have hB6 := HW5.out.1.grown HO4.out.2.1 hsz
      have hs6 : Save (· < w.heap.size) w5 w6 := ⟨hB6.os, hB6.tape, hB6.output, hB6.size, fun j _ hj => hB6.block j hj⟩
      have HN : Hid (L ++ [(readCh s2).1] = (readN readCh (k + 1) s1).1) := by rw [Hid, HL.out, readN, ← hs2.out]
      go_roundw
      case rel => exact ⟨k + 1, a4, L ++ [(readCh s2).1], k4, by simp, by go_num, by omega, HN.out, HO4.out.1, by rw [readN, ← hs2.out]; exact HW5.out.2.1.save hs6 hblt (fun g hg ht => by omega), (hs6.block g (Array.getElem?_eq_some_iff.1 HW5.out.2.2.1).1 hglt).trans HW5.out.2.2.1, ⟨hB6.os.trans HW5.out.2.2.2.os, hB6.tape.trans HW5.out.2.2.2.tape, hB6.output.trans HW5.out.2.2.2.output, Nat.le_trans HW5.out.2.2.2.size hB6.size, fun j hj hs => (hB6.block j hj).trans (HW5.out.2.2.2.block j hj hs)⟩⟩
      case measure => simp [intOf]; omega
    · have hk2 : k = n := by omega
      have HF := Lib.hid (And.intro hO (And.intro hR (And.intro hgv hS)))
      clear hO hR hgv hS
      subst hk2
      go_wp2_with fail
      go_ret
      exact ⟨a, c, by rw [← HL.out]; rfl, by rw [← HL.out]; exact HF.out.1, HF.out.2.1, HF.out.2.2.2⟩
end Go.Proofs.YtlholdllibghbaaGreat

/- slices.Clone at windows, channels, partitions: walked. -/
namespace Go.Proofs.YtlholdllibghbaaGreat
open Go Go.RowKit Go.Cit

theorem cbuild0p (ρ : Operand → Value) (o : Oper) (w : World) (h : o.op = .buildSlice 23 0 #[]) : (execOp ρ o).run Tryz.prog w = .ok (.value (.slice (some ⟨w.heap.size, 0, none⟩) 0 0)) (w.alloc (.cells #[] 46)) := by
  unfold execOp; rw [h]; kernel_rfl
set_option maxRecDepth 100000 in
theorem cloneW_calls (w : World) (a : Option Addr) (l : List Win) (c : Nat) (h : Vec cWin 2 w a l c) (hl : l.length ≤ 1000) :
    Calls Tryz.prog 160 #[.slice a l.length c] w fun e w' => ∃ a' c', e = .returned (.slice a' l.length c') ∧ VOwn cWin 2 77 w.heap.size w' a' l c' ∧ Below w.heap.size w w' := by
  cases a with
  | none =>
    have h0 := h.nil rfl
    have h1 := h.le
    obtain rfl : l = [] := List.eq_nil_of_length_eq_zero (by omega)
    subst h0
    show Calls Tryz.prog 160 #[.slice none 0 0] w _
    have hq := fun w : World => Lib.run_eql_slice_nil (P := Tryz.prog) w 22 77 none 0 0 0 0 Tryz.underlying22
    go_enter Tryz.func160, Tryz.ntmps160
    go_wp2_with fail
    go_ret
    exact ⟨none, 0, rfl, VOwn.nil_ _ _ _ _ _, Below.refl _ _⟩
  | some x =>
    have hq := fun w : World => Lib.run_eql_slice_nil (P := Tryz.prog) w 22 77 (some x) l.length c 0 0 Tryz.underlying22
    have B0 : Below w.heap.size w (w.alloc (.cells #[] 77)) := (Below.refl _ _).alloc (Nat.le_refl _) _
    have O0 := (vown_lit w #[] 77 2 ([] : List Win) cWin_len rfl (by simp))
    obtain ⟨a', c', w', hr, ho, hb⟩ := run_vapp0 etW cWin_len cWin_one 22 O0 (h.stay cWin_len B0) (by omega) B0.size
    have HR := Lib.hid hr
    have HO := Lib.hid (And.intro ho (B0.trans (hb.mono B0.size)))
    clear hr ho hb O0 B0 h
    go_enter Tryz.func160, Tryz.ntmps160
    go_wp2_with (first
      | ((with_reducible refine wpList_value (o := ⟨some 5, .buildSlice _ _ _, _, _, _, _⟩) (by with_unfolding_all rfl) (cbuild0 _ _ _ rfl) ?_))
      | ((with_reducible refine wpList_value (o := ⟨some 7, .call _, _, _, _, _⟩) (by with_unfolding_all rfl) (exec_append rfl (by with_unfolding_all rfl) (by with_unfolding_all rfl) HR.out) ?_)))
    go_ret
    exact ⟨a', c', rfl, HO.out.1, HO.out.2⟩
set_option maxRecDepth 100000 in
theorem cloneC_calls (w : World) (a : Option Addr) (l : List Ch) (c : Nat) (h : Vec cCh 5 w a l c) (hl : l.length ≤ 1000) :
    Calls Tryz.prog 161 #[.slice a l.length c] w fun e w' => ∃ a' c', e = .returned (.slice a' l.length c') ∧ VOwn cCh 5 48 w.heap.size w' a' l c' ∧ Below w.heap.size w w' := by
  cases a with
  | none =>
    have h0 := h.nil rfl
    have h1 := h.le
    obtain rfl : l = [] := List.eq_nil_of_length_eq_zero (by omega)
    subst h0
    show Calls Tryz.prog 161 #[.slice none 0 0] w _
    have hq := fun w : World => Lib.run_eql_slice_nil (P := Tryz.prog) w 24 48 none 0 0 0 0 Tryz.underlying24
    go_enter Tryz.func161, Tryz.ntmps161
    go_wp2_with fail
    go_ret
    exact ⟨none, 0, rfl, VOwn.nil_ _ _ _ _ _, Below.refl _ _⟩
  | some x =>
    have hq := fun w : World => Lib.run_eql_slice_nil (P := Tryz.prog) w 24 48 (some x) l.length c 0 0 Tryz.underlying24
    have B0 : Below w.heap.size w (w.alloc (.cells #[] 48)) := (Below.refl _ _).alloc (Nat.le_refl _) _
    have O0 := (vown_lit w #[] 48 5 ([] : List Ch) cCh_len rfl (by simp))
    obtain ⟨a', c', w', hr, ho, hb⟩ := run_vapp0 etC cCh_len cCh_one 24 O0 (h.stay cCh_len B0) (by omega) B0.size
    have HR := Lib.hid hr
    have HO := Lib.hid (And.intro ho (B0.trans (hb.mono B0.size)))
    clear hr ho hb O0 B0 h
    go_enter Tryz.func161, Tryz.ntmps161
    go_wp2_with (first
      | ((with_reducible refine wpList_value (o := ⟨some 5, .buildSlice _ _ _, _, _, _, _⟩) (by with_unfolding_all rfl) (cbuild0c _ _ _ rfl) ?_))
      | ((with_reducible refine wpList_value (o := ⟨some 7, .call _, _, _, _, _⟩) (by with_unfolding_all rfl) (exec_append rfl (by with_unfolding_all rfl) (by with_unfolding_all rfl) HR.out) ?_)))
    go_ret
    exact ⟨a', c', rfl, HO.out.1, HO.out.2⟩
set_option maxRecDepth 100000 in
theorem cloneP_calls (w : World) (a : Option Addr) (l : List PtV) (c : Nat) (h : Vec cPt 5 w a l c) (hl : l.length ≤ 1000) :
    Calls Tryz.prog 162 #[.slice a l.length c] w fun e w' => ∃ a' c', e = .returned (.slice a' l.length c') ∧ VOwn cPt 5 46 w.heap.size w' a' l c' ∧ Below w.heap.size w w' := by
  cases a with
  | none =>
    have h0 := h.nil rfl
    have h1 := h.le
    obtain rfl : l = [] := List.eq_nil_of_length_eq_zero (by omega)
    subst h0
    show Calls Tryz.prog 162 #[.slice none 0 0] w _
    have hq := fun w : World => Lib.run_eql_slice_nil (P := Tryz.prog) w 23 46 none 0 0 0 0 Tryz.underlying23
    go_enter Tryz.func162, Tryz.ntmps162
    go_wp2_with fail
    go_ret
    exact ⟨none, 0, rfl, VOwn.nil_ _ _ _ _ _, Below.refl _ _⟩
  | some x =>
    have hq := fun w : World => Lib.run_eql_slice_nil (P := Tryz.prog) w 23 46 (some x) l.length c 0 0 Tryz.underlying23
    have B0 : Below w.heap.size w (w.alloc (.cells #[] 46)) := (Below.refl _ _).alloc (Nat.le_refl _) _
    have O0 := (vown_lit w #[] 46 5 ([] : List PtV) cPt_len rfl (by simp))
    obtain ⟨a', c', w', hr, ho, hb⟩ := run_vapp0 etP cPt_len cPt_one 23 O0 (h.stay cPt_len B0) (by omega) B0.size
    have HR := Lib.hid hr
    have HO := Lib.hid (And.intro ho (B0.trans (hb.mono B0.size)))
    clear hr ho hb O0 B0 h
    go_enter Tryz.func162, Tryz.ntmps162
    go_wp2_with (first
      | ((with_reducible refine wpList_value (o := ⟨some 5, .buildSlice _ _ _, _, _, _, _⟩) (by with_unfolding_all rfl) (cbuild0p _ _ _ rfl) ?_))
      | ((with_reducible refine wpList_value (o := ⟨some 7, .call _, _, _, _, _⟩) (by with_unfolding_all rfl) (exec_append rfl (by with_unfolding_all rfl) (by with_unfolding_all rfl) HR.out) ?_)))
    go_ret
    exact ⟨a', c', rfl, HO.out.1, HO.out.2⟩
end Go.Proofs.YtlholdllibghbaaGreat

/- config.Copy: walked. -/
namespace Go.Proofs.YtlholdllibghbaaGreat
open Go Go.RowKit Go.Cit

def cyT (B g k : Nat) (L : List PtV) (pc : Nat) (x : PtV) (N : Nat) : Nat → Value → World → Prop
  | 22, v, _ => v = .pointer (some ⟨B, 1, none⟩)
  | 23, v, _ => v = .slice (some ⟨g, 0, none⟩) L.length pc
  | 24, v, _ => v = .int .i64 (k : Int)
  | 25, v, _ => v = .pointer (some ⟨B, 1, none⟩)
  | 26, v, _ => v = .slice (some ⟨g, 0, none⟩) L.length pc
  | 27, v, _ => v = .int .i64 (k : Int)
  | 28, v, _ => v = .pointer (some ⟨g, k * 5, none⟩)
  | 29, v, _ => v = .pointer (some ⟨g, k * 5 + 4, none⟩)
  | 30, v, _ => v = .slice x.a x.img.length x.c
  | 31, v, w => ∃ a c, v = .slice a x.img.length c ∧ Cit.Own 5 N w a x.img c
  | 32, v, _ => v = .pointer (some ⟨g, k * 5, none⟩)
  | 33, v, _ => v = .pointer (some ⟨g, k * 5 + 4, none⟩)
  | _, _, _ => True
def cyFin (W : World) (g k : Nat) (L : List PtV) (pc : Nat) (x : PtV) (N : Nat) (wx : World) : Prop := ∃ a c, Held cPt 5 46 wx g (L.set k ⟨x.id, x.reg, x.keep, a, x.img, c⟩) pc ∧ Cit.Own 5 N wx a x.img c ∧ Save (· ≠ g) W wx
def cyC (W : World) (g k : Nat) (L : List PtV) (pc : Nat) (x : PtV) (N : Nat) (δ : Nat → Bool) (wx : World) : Prop := (δ 12 = false → Below W.heap.size W wx) ∧ (δ 12 = true → cyFin W g k L pc x N wx)
def cyG (g i : Nat) (wx w' : World) : Prop := (i ≠ 12 ∧ Below wx.heap.size wx w') ∨ (i = 12 ∧ Save (· ≠ g) wx w' ∧ ∃ cs, wx.heap[g]? = some (.cells cs 46 (0, 0)))
theorem cyT_stay {B g k : Nat} {L : List PtV} {pc : Nat} {x : PtV} {N d i : Nat} {v : Value} {wx w' : World} (hG : cyG g i wx w') (h : cyT B g k L pc x N d v wx) : cyT B g k L pc x N d v w' := by
  unfold cyT at *
  split at h
  all_goals first
    | exact h
    | (obtain ⟨a, c, e, h⟩ := h
       refine ⟨a, c, e, ?_⟩
       rcases hG with ⟨_, hb⟩ | ⟨_, hs, cs, hg⟩
       · exact h.stay hb
       · exact h.save hs (fun j hj => ownb_bx h hg neUP j hj))
    | trivial

structure FreshV (B : Nat) (w : World) (V : CfgV) : Prop where
  win : Vec cWin 2 w V.wa V.ws V.wc
  pts : Vec cPt 5 w V.pa V.ps V.pc
  chs : Vec cCh 5 w V.ca V.cs V.cc
  wb : ∀ g, blk V.wa = some g → B ≤ g ∧ ∃ cs, w.heap[g]? = some (.cells cs 77 (0, 0))
  pb : ∀ g, blk V.pa = some g → B ≤ g ∧ ∃ cs, w.heap[g]? = some (.cells cs 46 (0, 0))
  cb : ∀ g, blk V.ca = some g → B ≤ g ∧ ∃ cs, w.heap[g]? = some (.cells cs 48 (0, 0))
  img : ∀ x ∈ V.ps, Cit.Own 5 B w x.a x.img x.c
theorem FreshV.at {B : Nat} {w : World} {V : CfgV} (h : FreshV B w V) : V.At w := ⟨h.win, h.pts, h.chs, fun x hx => (h.img x hx).isRow⟩
theorem OwnedV.fresh {B : Nat} {w : World} {V : CfgV} (h : OwnedV B w V) : FreshV B w V :=
  ⟨h.at.win, h.at.pts, h.at.chs, fun _ hg => ⟨(h.win.blk_ge hg).1, vown_block h.win hg⟩, fun _ hg => ⟨(h.pts.blk_ge hg).1, vown_block h.pts hg⟩, fun _ hg => ⟨(h.chs.blk_ge hg).1, vown_block h.chs hg⟩, h.img⟩
theorem FreshV.stay {B : Nat} {w w' : World} {V : CfgV} (h : FreshV B w V) (hb : Below w.heap.size w w') : FreshV B w' V :=
  ⟨h.win.stay cWin_len hb, h.pts.stay cPt_len hb, h.chs.stay cCh_len hb, fun g hg => ⟨(h.wb g hg).1, let ⟨cs, hc⟩ := (h.wb g hg).2; ⟨cs, blk_stay hc hb⟩⟩, fun g hg => ⟨(h.pb g hg).1, let ⟨cs, hc⟩ := (h.pb g hg).2; ⟨cs, blk_stay hc hb⟩⟩, fun g hg => ⟨(h.cb g hg).1, let ⟨cs, hc⟩ := (h.cb g hg).2; ⟨cs, blk_stay hc hb⟩⟩, fun x hx => (h.img x hx).stay hb⟩
theorem FreshV.low {B B' : Nat} {w : World} {V : CfgV} (h : FreshV B w V) (hb : B' ≤ B) : FreshV B' w V :=
  ⟨h.win, h.pts, h.chs, fun g hg => ⟨Nat.le_trans hb (h.wb g hg).1, (h.wb g hg).2⟩, fun g hg => ⟨Nat.le_trans hb (h.pb g hg).1, (h.pb g hg).2⟩, fun g hg => ⟨Nat.le_trans hb (h.cb g hg).1, (h.cb g hg).2⟩, fun x hx => (h.img x hx).low hb⟩
theorem cy_copied {V : CfgV} {L : List PtV} {k : Nat} (h : L.map PtV.pt = V.ps.map PtV.pt) (hk : k < L.length) (a : Option Addr) (c : Nat) : (L.set k ⟨L[k].id, L[k].reg, L[k].keep, a, L[k].img, c⟩).map PtV.pt = V.ps.map PtV.pt := by
  rw [set_map PtV.pt L k ⟨L[k].id, L[k].reg, L[k].keep, a, L[k].img, c⟩ hk rfl, h]
set_option maxRecDepth 100000 in
set_option maxHeartbeats 8000000 in
theorem ccopy_calls (w : World) (V : CfgV) (h : V.At w) (hs : SmallV V) : Calls Tryz.prog 79 #[.agg #[.slice V.wa V.ws.length V.wc, .slice V.pa V.ps.length V.pc, .slice V.ca V.cs.length V.cc]] w fun e w' => ∃ U : CfgV, e = .returned (.agg #[.slice U.wa U.ws.length U.wc, .slice U.pa U.ps.length U.pc, .slice U.ca U.cs.length U.cc]) ∧ U.cfg = V.cfg ∧ FreshV w.heap.size w' U ∧ Below w.heap.size w w' := by
  obtain ⟨B, hB⟩ : ∃ B, B = w.heap.size := ⟨_, rfl⟩
  obtain ⟨w0, hw0⟩ : ∃ w0, w0 = (w.alloc (.cells #[.slice V.wa V.ws.length V.wc, .slice V.pa V.ps.length V.pc, .slice V.ca V.cs.length V.cc] 26)).alloc (.cells #[.slice none 0 0, .slice none 0 0, .slice none 0 0] 26) := ⟨_, rfl⟩
  have B0 : Below w.heap.size w w0 := by rw [hw0]; exact ((Below.refl _ w).alloc (Nat.le_refl _) _).alloc (by simp) _
  have hx1 : w0.heap[B]? = some (.cells #[.slice V.wa V.ws.length V.wc, .slice V.pa V.ps.length V.pc, .slice V.ca V.cs.length V.cc] 26 (0, 0)) := by rw [hw0, hB]; exact (Below.heap_alloc _ _ _ (by simp)).trans (heap_alloc_new w _)
  have hx2 : w0.heap[B + 1]? = some (.cells #[.slice none 0 0, .slice none 0 0, .slice none 0 0] 26 (0, 0)) := by
    have := heap_alloc_new (w.alloc (.cells #[.slice V.wa V.ws.length V.wc, .slice V.pa V.ps.length V.pc, .slice V.ca V.cs.length V.cc] 26)) (.cells #[.slice none 0 0, .slice none 0 0, .slice none 0 0] 26)
    rw [World.size_alloc] at this
    rw [hw0, hB]; exact this
  have HV := Lib.hid (h.stay B0)
  have HVW := Lib.hid h
  have H0 := Lib.hid (And.intro hx1 (And.intro hx2 B0))
  have HK := Lib.hid (cloneW_calls w0 V.wa V.ws V.wc HV.out.win (Nat.le_trans hs.win (by decide)))
  have hl2 := h.pts.len_le
  have c0 := cells_of hx1 0 rfl
  clear h hx1 hx2 B0
  go_enter Tryz.func79, Tryz.ntmps79
  go_upto_region 1 with fail
  rw [← hw0, ← hB]
  have HBB := Lib.hid hB
  clear hw0 hB
  go_wp2_with fail
  refine (HK.out).mono ?_
  rintro e w1 ⟨a1, k1, rfl, hO1, hb1⟩
  have hx1 := blk_stay H0.out.1 hb1
  have c0 := cells_of hx1 0 rfl
  have f0 := frozen_no hx1 0
  obtain ⟨x1, hx⟩ : ∃ x, x = w1.setCell ⟨B, 0, none⟩ (.slice a1 V.ws.length k1) := ⟨_, rfl⟩
  have s1 : Save (· ≠ B) w1 x1 := by rw [hx]; exact Save.set
  have hq1 : x1.heap[B]? = some (.cells #[.slice a1 V.ws.length k1, .slice V.pa V.ps.length V.pc, .slice V.ca V.cs.length V.cc] 26 (0, 0)) := by rw [hx]; exact setCell_blk _ hx1
  have hr1 : x1.heap[B + 1]? = _ := (s1.block (B + 1) (Array.getElem?_eq_some_iff.1 (blk_stay H0.out.2.1 hb1)).1 (by omega)).trans (blk_stay H0.out.2.1 hb1)
  have o1 := hO1.save s1 (fun g hg => vown_ne hO1 hx1 neW g hg)
  have t1 : Save (· ≠ B) w0 x1 := (Save.of hb1).trans s1
  have H1 := Lib.hid (And.intro o1 (And.intro hq1 (And.intro hr1 t1)))
  clear hO1 hb1 hx1 HK s1 hq1 hr1 o1 t1
  go_upto_region 2 with fail
  rw [← hx]
  clear hx c0 f0
  have HVN : Hid (∀ {wx : World}, Save (· ≠ B) w0 wx → V.At wx) := fun {wx} hsv => HVW.out.stay (H0.out.2.2.trans (hsv.below H0.out.2.2.size (fun k hk => by have := HBB.out; omega)))
  have HBN : Hid (∀ {wx : World}, Save (· ≠ B) w0 wx → w.heap.size ≤ wx.heap.size) := fun {wx} hsv => Nat.le_trans H0.out.2.2.size hsv.size
  have c2 := cells_of H1.out.2.1 2 rfl
  have HK := Lib.hid (cloneC_calls x1 V.ca V.cs V.cc (HVN.out H1.out.2.2.2).chs (Nat.le_trans hs.chs (by decide)))
  go_wp2_with fail
  refine (HK.out).mono ?_
  rintro e w2 ⟨a2, k2, rfl, hO2, hb2⟩
  have hx1 := blk_stay H1.out.2.1 hb2
  have c2 := cells_of hx1 2 rfl
  have f2 := frozen_no hx1 2
  obtain ⟨x2, hx⟩ : ∃ x, x = w2.setCell ⟨B, 2, none⟩ (.slice a2 V.cs.length k2) := ⟨_, rfl⟩
  have s1 : Save (· ≠ B) w2 x2 := by rw [hx]; exact Save.set
  have hq1 : x2.heap[B]? = some (.cells #[.slice a1 V.ws.length k1, .slice V.pa V.ps.length V.pc, .slice a2 V.cs.length k2] 26 (0, 0)) := by rw [hx]; exact setCell_blk _ hx1
  have hr1 : x2.heap[B + 1]? = _ := (s1.block (B + 1) (Array.getElem?_eq_some_iff.1 (blk_stay H1.out.2.2.1 hb2)).1 (by omega)).trans (blk_stay H1.out.2.2.1 hb2)
  have o0 := H1.out.1.stay hb2
  have o1 := o0.save s1 (fun g hg => vown_ne o0 hx1 neW g hg)
  have o2 := (hO2.low (HBN.out H1.out.2.2.2)).save s1 (fun g hg => vown_ne hO2 hx1 neC g hg)
  have t1 : Save (· ≠ B) w0 x2 := H1.out.2.2.2.trans ((Save.of hb2).trans s1)
  have H2 := Lib.hid (And.intro (o1.low H0.out.2.2.size) (And.intro o2 (And.intro hq1 (And.intro hr1 t1))))
  clear hO2 hb2 hx1 HK s1 hq1 hr1 o0 o1 o2 t1
  go_upto_region 3 with fail
  rw [← hx]
  clear hx c2 f2
  have c1 := cells_of H2.out.2.2.1 1 rfl
  have HK := Lib.hid (cloneP_calls x2 V.pa V.ps V.pc (HVN.out H2.out.2.2.2.2).pts (Nat.le_trans hs.pts (by decide)))
  go_wp2_with fail
  refine (HK.out).mono ?_
  rintro e w3 ⟨a3, k3, rfl, hO3, hb3⟩
  have hx1 := blk_stay H2.out.2.2.1 hb3
  have c1 := cells_of hx1 1 rfl
  have f1 := frozen_no hx1 1
  obtain ⟨x3, hx⟩ : ∃ x, x = w3.setCell ⟨B, 1, none⟩ (.slice a3 V.ps.length k3) := ⟨_, rfl⟩
  have s1 : Save (· ≠ B) w3 x3 := by rw [hx]; exact Save.set
  have hq1 : x3.heap[B]? = some (.cells #[.slice a1 V.ws.length k1, .slice a3 V.ps.length k3, .slice a2 V.cs.length k2] 26 (0, 0)) := by rw [hx]; exact setCell_blk _ hx1
  have hr1 : x3.heap[B + 1]? = _ := (s1.block (B + 1) (Array.getElem?_eq_some_iff.1 (blk_stay H2.out.2.2.2.1 hb3)).1 (by omega)).trans (blk_stay H2.out.2.2.2.1 hb3)
  have o0 := H2.out.1.stay hb3
  have o1 := o0.save s1 (fun g hg => vown_ne o0 hx1 neW g hg)
  have o9 := H2.out.2.1.stay hb3
  have o2 := o9.save s1 (fun g hg => vown_ne o9 hx1 neC g hg)
  have o3 := (hO3.low (HBN.out H2.out.2.2.2.2)).save s1 (fun g hg => vown_ne hO3 hx1 neP g hg)
  have hgt : V.ps ≠ [] → ∀ g, blk a3 = some g → x2.heap.size ≤ g := fun _ g hg => (hO3.blk_ge hg).1
  have t1 : Save (· ≠ B) w0 x3 := H2.out.2.2.2.2.trans ((Save.of hb3).trans s1)
  have H3 := Lib.hid (And.intro o1 (And.intro o2 (And.intro o3 (And.intro hq1 (And.intro hr1 t1)))))
  clear hO3 hb3 hx1 HK s1 hq1 hr1 o0 o1 o2 o3 o9 t1
  go_upto_region 4 with fail
  rw [← hx]
  clear hx c1 f1 H1 H2
  have c1 := cells_of H3.out.2.2.2.1 1 rfl
  by_cases h0 : V.ps = []
  · have h00 : V.ps.length = 0 := by rw [h0]; rfl
    have o3 := H3.out.2.2.1
    rw [h0] at o3
    have HO3 := Lib.hid o3
    have HXR := Lib.hid H3.out.2.2.2.2.1
    have hxB := H3.out.2.2.2.1
    rw [h00] at hxB c1
    have c0 := cells_of hxB 0 rfl
    have c2 := cells_of hxB 2 rfl
    have HBE : Hid (Below w.heap.size w x3) := H0.out.2.2.trans (H3.out.2.2.2.2.2.below H0.out.2.2.size (fun k hk => by have := HBB.out; omega))
    rw [h00]
    clear hxB o3
    go_wp2_with fail
    go_loopw [19] (fun i wr => i = .int .i64 0 ∧ wr = x3) (fun i _ => 0)
    case atStart => exact ⟨rfl, rfl⟩
    case round =>
      obtain ⟨rfl, rfl⟩ := hrel
      go_wp2_with ((with_reducible refine wpList_storeB (o := ⟨none, .store _ (.tmp 2) _, _, _, _, _⟩) rowCfg (.tmp 2) (.tmp 35) (by with_unfolding_all rfl) (by with_unfolding_all rfl) (by with_unfolding_all rfl) (by with_unfolding_all rfl) (by with_unfolding_all rfl) HXR.out (by with_unfolding_all rfl) (by with_unfolding_all rfl) (by with_unfolding_all rfl) ?_); intro w9 hg9 hs9)
      have ow9 := H3.out.1.save hs9 (fun j hj => vown_ne H3.out.1 HXR.out neW j hj)
      have oc9 := H3.out.2.1.save hs9 (fun j hj => vown_ne H3.out.2.1 HXR.out neC j hj)
      have op9 := HO3.out.save hs9 (fun j hj => vown_ne HO3.out HXR.out neP j hj)
      refine bodyPost_ret (resB1 rowCfg rfl (by rfl) hg9 rfl) rfl ⟨⟨a1, V.ws, k1, a3, [], k3, a2, V.cs, k2⟩, rfl, ?_, ⟨ow9.vec cWin_len, op9.vec cPt_len, oc9.vec cCh_len, fun j hj => ⟨(ow9.blk_ge hj).1, vown_block ow9 hj⟩, fun j hj => ⟨(op9.blk_ge hj).1, vown_block op9 hj⟩, fun j hj => ⟨(oc9.blk_ge hj).1, vown_block oc9 hj⟩, fun x hx => by simp at hx⟩, HBE.out.trans (hs9.below HBE.out.size (fun j hj => by have := HBB.out; omega))⟩
      simp [CfgV.cfg, h0]
  · obtain ⟨g, ha3, hgB, hg3⟩ := own_addr H3.out.2.2.1 h0
    have hgne : g ≠ B := fun e => by
      obtain ⟨C, hC⟩ := vown_block H3.out.2.2.1 (g := g) (by rw [ha3]; rfl)
      rw [e, H3.out.2.2.2.1] at hC; simp at hC
    have hgne2 : g ≠ B + 1 := fun e => by
      obtain ⟨C, hC⟩ := vown_block H3.out.2.2.1 (g := g) (by rw [ha3]; rfl)
      rw [e, H3.out.2.2.2.2.1] at hC; simp at hC
    subst ha3
    have HH3 : Hid (Held cPt 5 46 x3 g V.ps k3) := H3.out.2.2.1.held cPt_len
    have HGG := Lib.hid (And.intro hgB (And.intro hgne hgne2))
    have HBX : Hid (∀ {wx : World}, Save (· ≠ g) x3 wx → Below w.heap.size w wx) := fun {wx} hsv => (H0.out.2.2.trans (H3.out.2.2.2.2.2.below H0.out.2.2.size (fun k hk => by have := HBB.out; omega))).trans (hsv.below (HBN.out H3.out.2.2.2.2.2) (fun k hk => by omega))
    clear hgB hgne hgne2
    go_wp2_with fail
    go_loopw [19] (fun i wr => ∃ (k : Nat) (L : List PtV), i = .int .i64 (k : Int) ∧ k ≤ V.ps.length ∧ L.length = V.ps.length ∧ Hid (L.map PtV.pt = V.ps.map PtV.pt) ∧ Hid (∀ j (hj : j < L.length), j < k → Cit.Own 5 w.heap.size wr L[j].a L[j].img L[j].c) ∧ Hid (∀ j (hj : j < L.length) (hv : j < V.ps.length), k ≤ j → L[j] = V.ps[j]) ∧ Held cPt 5 46 wr g L k3 ∧ Save (· ≠ g) x3 wr) (fun i _ => V.ps.length - (intOf i).toNat)
    case atStart => exact ⟨0, V.ps, rfl, Nat.zero_le _, rfl, rfl, fun j hj h => by omega, fun j hj hv h => rfl, HH3.out, Save.refl _ _⟩
    case round =>
      obtain ⟨k, L, rfl, hk, hLl, HLM, HLO, HLV, hH, hS⟩ := hrel
      have HLH := Lib.hid (And.intro hH hS)
      have c1 : wr.cell? ⟨B, 1, none⟩ = some (.slice (some ⟨g, 0, none⟩) L.length k3) := by
        rw [hLl]
        exact (hS.cell (p := ⟨B, 1, none⟩) (Array.getElem?_eq_some_iff.1 H3.out.2.2.2.1).1 (by have := HGG.out.2.1; show B ≠ g; omega)).trans (cells_of H3.out.2.2.2.1 1 rfl)
      by_cases hlt : k < V.ps.length
      · have hltL : k < L.length := by rw [hLl]; exact hlt
        have i0 : ∀ w, (Instr.indexAt 23 (.slice (some ⟨g, 0, none⟩) L.length k3) (.int .i64 (k : Int))).run Tryz.prog w = .ok (.pointer (some ⟨g, k * 5, none⟩)) w := by
          have := hH.vec.index etP k hltL
          rwa [ad_some] at this
        obtain ⟨x, hx⟩ : ∃ x, Hid (x = L[k]) := ⟨L[k], rfl⟩
        have HXE := hx
        have u4 : wr.cell? ⟨g, k * 5 + 4, none⟩ = some (.slice x.a x.img.length x.c) := by
          have := (pts_cells hH.vec (Below.refl _ wr) k hltL).2.2.2.2
          rw [← hx.out] at this
          rw [ad_some] at this
          exact this
        have HXR : Hid (Row wr x.a x.img x.c ∧ x.img.length ≤ 1000000000) := by
          have e : x = V.ps[k] := by rw [hx.out]; exact HLV.out k hltL hlt (Nat.le_refl _)
          have hm : x ∈ V.ps := by rw [e]; exact List.getElem_mem hlt
          exact ⟨(HVW.out.img x hm).stay (HBX.out hS), Nat.le_trans (hs.img x hm) (by decide)⟩
        have HNR : Hid (w.heap.size ≤ wr.heap.size) := (HBX.out hS).size
        clear hH hS
        go_upto_region 7 with fail
        refine wp_region_ph (cyC wr g k L k3 x w.heap.size) (cyG g) (cyT B g k L k3 x w.heap.size) (by kernel_rfl) (by kernel_rfl) (fun w' hb hh => ⟨fun _ => hb, fun h => absurd h (by simp)⟩) ?_ ?_ ?_
        · intro δ i j o v wx w' ho hij hcl hj hi hc hG hT
          rcases hd : o.dst with _ | d
          · exact tyP_none hd _ _
          · rw [tyP_some hd] at hT ⊢
            exact cyT_stay hG hT
        · refine opsAll_cons ?_ (opsAll_cons ?_ (opsAll_cons ?_ (opsAll_cons ?_ (opsAll_cons ?_ (opsAll_cons ?_ (opsAll_cons ?_ (opsAll_cons ?_ (opsAll_cons ?_ (opsAll_cons ?_ (opsAll_cons ?_ (opsAll_cons ?_ (opsAll_cons ?_ opsAll_nil))))))))))))
          all_goals intro δ wa wx hk
          · have hy := hk.closed.yet 14 12 0 (by kernel_rfl) hk.yet
            have hb := hk.inv.1 hy
            exact ⟨wanted_free rfl, gp_field (.tmp 1) rfl (hk.old 1 (by kernel_rfl)) (v := .pointer (some ⟨B, 1, none⟩)) (fun w => by kernel_rfl) ⟨.inl ⟨by decide, Below.refl _ _⟩, ⟨fun _ => hb, fun h => absurd h (by rw [upd_other _ (by decide), hy]; decide)⟩, rfl⟩⟩
          · have hy := hk.closed.yet 14 12 1 (by kernel_rfl) hk.yet
            have hb := hk.inv.1 hy
            exact ⟨wanted_free rfl, gp_load (.tmp 22) rfl (hk.slot 22 (by kernel_rfl)) (v := .slice (some ⟨g, 0, none⟩) L.length k3) (load_at (fun w => by kernel_rfl) (keep hb c1)) ⟨.inl ⟨by decide, Below.refl _ _⟩, ⟨fun _ => hb, fun h => absurd h (by rw [upd_other _ (by decide), hy]; decide)⟩, rfl⟩⟩
          · have hy := hk.closed.yet 14 12 2 (by kernel_rfl) hk.yet
            have hb := hk.inv.1 hy
            exact ⟨wanted_free rfl, gp_move (.tmp 3) rfl ⟨.inl ⟨by decide, Below.refl _ _⟩, ⟨fun _ => hb, fun h => absurd h (by rw [upd_other _ (by decide), hy]; decide)⟩, hk.old 3 (by kernel_rfl)⟩⟩
          · have hy := hk.closed.yet 14 12 3 (by kernel_rfl) hk.yet
            have hb := hk.inv.1 hy
            exact ⟨wanted_free rfl, gp_field (.tmp 1) rfl (hk.old 1 (by kernel_rfl)) (v := .pointer (some ⟨B, 1, none⟩)) (fun w => by kernel_rfl) ⟨.inl ⟨by decide, Below.refl _ _⟩, ⟨fun _ => hb, fun h => absurd h (by rw [upd_other _ (by decide), hy]; decide)⟩, rfl⟩⟩
          · have hy := hk.closed.yet 14 12 4 (by kernel_rfl) hk.yet
            have hb := hk.inv.1 hy
            exact ⟨wanted_free rfl, gp_load (.tmp 25) rfl (hk.slot 25 (by kernel_rfl)) (v := .slice (some ⟨g, 0, none⟩) L.length k3) (load_at (fun w => by kernel_rfl) (keep hb c1)) ⟨.inl ⟨by decide, Below.refl _ _⟩, ⟨fun _ => hb, fun h => absurd h (by rw [upd_other _ (by decide), hy]; decide)⟩, rfl⟩⟩
          · have hy := hk.closed.yet 14 12 5 (by kernel_rfl) hk.yet
            have hb := hk.inv.1 hy
            exact ⟨wanted_free rfl, gp_move (.tmp 3) rfl ⟨.inl ⟨by decide, Below.refl _ _⟩, ⟨fun _ => hb, fun h => absurd h (by rw [upd_other _ (by decide), hy]; decide)⟩, hk.old 3 (by kernel_rfl)⟩⟩
          · have hy := hk.closed.yet 14 12 6 (by kernel_rfl) hk.yet
            have hb := hk.inv.1 hy
            exact ⟨wanted_free rfl, gp_index (.tmp 26) (.tmp 27) rfl (hk.slot 26 (by kernel_rfl)) (hk.slot 27 (by kernel_rfl)) (v := .pointer (some ⟨g, k * 5, none⟩)) (i0 wx) ⟨.inl ⟨by decide, Below.refl _ _⟩, ⟨fun _ => hb, fun h => absurd h (by rw [upd_other _ (by decide), hy]; decide)⟩, rfl⟩⟩
          · have hy := hk.closed.yet 14 12 7 (by kernel_rfl) hk.yet
            have hb := hk.inv.1 hy
            exact ⟨wanted_free rfl, gp_field (.tmp 28) rfl (hk.slot 28 (by kernel_rfl)) (v := .pointer (some ⟨g, k * 5 + 4, none⟩)) (fun w => by kernel_rfl) ⟨.inl ⟨by decide, Below.refl _ _⟩, ⟨fun _ => hb, fun h => absurd h (by rw [upd_other _ (by decide), hy]; decide)⟩, rfl⟩⟩
          · have hy := hk.closed.yet 14 12 8 (by kernel_rfl) hk.yet
            have hb := hk.inv.1 hy
            exact ⟨wanted_free rfl, gp_load (.tmp 29) rfl (hk.slot 29 (by kernel_rfl)) (v := .slice x.a x.img.length x.c) (load_at (fun w => by kernel_rfl) (keep hb u4)) ⟨.inl ⟨by decide, Below.refl _ _⟩, ⟨fun _ => hb, fun h => absurd h (by rw [upd_other _ (by decide), hy]; decide)⟩, rfl⟩⟩
          · have hy := hk.closed.yet 14 12 9 (by kernel_rfl) hk.yet
            have hb := hk.inv.1 hy
            refine ⟨wanted_free rfl, gp_call rfl (hk.fn _) #[.slice x.a x.img.length x.c] (fun w => by kernel_rfl) (by simp only [List.map_toArray, List.map_cons, List.map_nil, show wa.eval (.tmp 30) = _ from hk.slot 30 (by kernel_rfl)]) ((sclone_calls wx x.a x.img x.c (HXR.out.1.stay hb) HXR.out.2).mono ?_)⟩
            rintro e w9 ⟨a9, c9, he, ho, hb9⟩
            exact ⟨_, he, .inl ⟨by decide, hb9⟩, ⟨fun _ => hb.trans (hb9.mono hb.size), fun h => absurd h (by rw [upd_other _ (by decide), hy]; decide)⟩, a9, c9, rfl, ho.low (Nat.le_trans HNR.out hb.size)⟩
          · have hy := hk.closed.yet 14 12 10 (by kernel_rfl) hk.yet
            have hb := hk.inv.1 hy
            exact ⟨wanted_free rfl, gp_index (.tmp 23) (.tmp 24) rfl (hk.slot 23 (by kernel_rfl)) (hk.slot 24 (by kernel_rfl)) (v := .pointer (some ⟨g, k * 5, none⟩)) (i0 wx) ⟨.inl ⟨by decide, Below.refl _ _⟩, ⟨fun _ => hb, fun h => absurd h (by rw [upd_other _ (by decide), hy]; decide)⟩, rfl⟩⟩
          · have hy := hk.closed.yet 14 12 11 (by kernel_rfl) hk.yet
            have hb := hk.inv.1 hy
            exact ⟨wanted_free rfl, gp_field (.tmp 32) rfl (hk.slot 32 (by kernel_rfl)) (v := .pointer (some ⟨g, k * 5 + 4, none⟩)) (fun w => by kernel_rfl) ⟨.inl ⟨by decide, Below.refl _ _⟩, ⟨fun _ => hb, fun h => absurd h (by rw [upd_other _ (by decide), hy]; decide)⟩, rfl⟩⟩
          · have hb := hk.inv.1 hk.yet
            obtain ⟨a9, c9, e31, o31⟩ := hk.slot 31 (by kernel_rfl)
            have hH := HLH.out.1.stay cPt_len hb
            obtain ⟨cs, hcs⟩ := hH.blk
            refine ⟨wanted_free rfl, gp_store (.tmp 33) (.tmp 31) rfl (hk.slot 33 (by kernel_rfl)) e31 (store_slice (fun w => by kernel_rfl) (keep hb u4) (hH.free _)) ⟨.inr ⟨rfl, Save.set, cs, hcs⟩, ⟨fun h => absurd h (by rw [upd_same]; decide), fun _ => ⟨a9, c9, ?_, o31.save Save.set (fun j hj => ownb_bx o31 hcs neUP j hj), (Save.of hb).trans Save.set⟩⟩, trivial⟩⟩
            refine hH.set cPt_len hltL (by decide) ?_
            rw [← HXE.out]; rfl
        intro δ a wz hall hC hsame hT
        obtain ⟨a9, c9, hH9, hO9, hS9⟩ := hC.2 (hall 12 (by decide))
        have he := act_same hsame [22, 23, 24, 25, 26, 27, 28, 29, 30, 31, 32, 33] (by kernel_rfl)
        simp only [List.foldl_cons, List.foldl_nil] at he
        generalize a.eval (.tmp 22) = y22 at he
        generalize a.eval (.tmp 23) = y23 at he
        generalize a.eval (.tmp 24) = y24 at he
        generalize a.eval (.tmp 25) = y25 at he
        generalize a.eval (.tmp 26) = y26 at he
        generalize a.eval (.tmp 27) = y27 at he
        generalize a.eval (.tmp 28) = y28 at he
        generalize a.eval (.tmp 29) = y29 at he
        generalize a.eval (.tmp 30) = y30 at he
        generalize a.eval (.tmp 31) = y31 at he
        generalize a.eval (.tmp 32) = y32 at he
        generalize a.eval (.tmp 33) = y33 at he
        simp only [put_lit] at he
        dsimp only [List.set_cons_zero, List.set_cons_succ] at he
        subst he
        clear hsame hT hall
        have HF := Lib.hid (And.intro hH9 (And.intro hO9 hS9))
        clear hH9 hO9 hS9 hC
        have hset : ∀ j (hj : j < (L.set k ⟨x.id, x.reg, x.keep, a9, x.img, c9⟩).length), (L.set k ⟨x.id, x.reg, x.keep, a9, x.img, c9⟩)[j] = if k = j then ⟨x.id, x.reg, x.keep, a9, x.img, c9⟩ else L[j]'(by rw [List.length_set] at hj; exact hj) := fun j hj => List.getElem_set _
        have HM2 : Hid ((L.set k ⟨x.id, x.reg, x.keep, a9, x.img, c9⟩).map PtV.pt = V.ps.map PtV.pt) := by
          have := cy_copied HLM.out hltL a9 c9
          rw [← HXE.out] at this
          exact this
        have HO2 : Hid (∀ j (hj : j < (L.set k ⟨x.id, x.reg, x.keep, a9, x.img, c9⟩).length), j < k + 1 → Cit.Own 5 w.heap.size wz (L.set k ⟨x.id, x.reg, x.keep, a9, x.img, c9⟩)[j].a (L.set k ⟨x.id, x.reg, x.keep, a9, x.img, c9⟩)[j].img (L.set k ⟨x.id, x.reg, x.keep, a9, x.img, c9⟩)[j].c) := fun j hj hjk => by
          rw [hset j hj]
          split
          · exact HF.out.2.1
          · have ho := HLO.out j (by rw [List.length_set] at hj; exact hj) (by omega)
            obtain ⟨cs, hcs⟩ := HLH.out.1.blk
            exact ho.save HF.out.2.2 (fun i hi => ownb_bx ho hcs neUP i hi)
        have HV2 : Hid (∀ j (hj : j < (L.set k ⟨x.id, x.reg, x.keep, a9, x.img, c9⟩).length) (hv : j < V.ps.length), k + 1 ≤ j → (L.set k ⟨x.id, x.reg, x.keep, a9, x.img, c9⟩)[j] = V.ps[j]) := fun j hj hv hjk => by
          rw [hset j hj, if_neg (by omega)]
          exact HLV.out j _ hv (by omega)
        clear c1 u4 i0 hset
        go_wp2_with fail
        go_roundw
        case rel => exact ⟨k + 1, L.set k ⟨x.id, x.reg, x.keep, a9, x.img, c9⟩, by go_num, by omega, by rw [List.length_set]; exact hLl, HM2.out, HO2.out, HV2.out, HF.out.1, HLH.out.2.trans HF.out.2.2⟩
        case measure => simp [intOf]; omega
      · have hk2 : k = V.ps.length := by omega
        have hxB := (hS.block B (Array.getElem?_eq_some_iff.1 H3.out.2.2.2.1).1 (by have := HGG.out.2.1; omega)).trans H3.out.2.2.2.1
        have hxR := (hS.block (B + 1) (Array.getElem?_eq_some_iff.1 H3.out.2.2.2.2.1).1 (by have := HGG.out.2.2; omega)).trans H3.out.2.2.2.2.1
        have HXR := Lib.hid hxR
        have HBE := Lib.hid (HBX.out hS)
        clear c1
        have c0 := cells_of hxB 0 rfl
        have c1 := cells_of hxB 1 rfl
        have c2 := cells_of hxB 2 rfl
        clear hH hS hxB hxR
        subst hk2
        go_wp2_with ((with_reducible refine wpList_storeB (o := ⟨none, .store _ (.tmp 2) _, _, _, _, _⟩) rowCfg (.tmp 2) (.tmp 35) (by with_unfolding_all rfl) (by with_unfolding_all rfl) (by with_unfolding_all rfl) (by with_unfolding_all rfl) (by with_unfolding_all rfl) HXR.out (by with_unfolding_all rfl) (by with_unfolding_all rfl) (by with_unfolding_all rfl) ?_); intro w9 hg9 hs9)
        have hH := HLH.out.1
        have hS := HLH.out.2
        obtain ⟨cs, hcs⟩ := HH3.out.blk
        have ow := H3.out.1.save hS (fun j hj => vown_ne H3.out.1 hcs neWP j hj)
        have ow9 := ow.save hs9 (fun j hj => vown_ne ow HXR.out neW j hj)
        have oc := H3.out.2.1.save hS (fun j hj => vown_ne H3.out.2.1 hcs neCP j hj)
        have oc9 := oc.save hs9 (fun j hj => vown_ne oc HXR.out neC j hj)
        have hH9 := hH.save cPt_len hs9 HGG.out.2.2
        refine bodyPost_ret (resB1 rowCfg rfl (by rfl) hg9 rfl) rfl ⟨⟨a1, V.ws, k1, some ⟨g, 0, none⟩, L, k3, a2, V.cs, k2⟩, by rw [hLl], ?_, ⟨ow9.vec cWin_len, hH9.vec, oc9.vec cCh_len, fun j hj => ⟨(ow9.blk_ge hj).1, vown_block ow9 hj⟩, fun j hj => ?_, fun j hj => ⟨(oc9.blk_ge hj).1, vown_block oc9 hj⟩, fun x hx => ?_⟩, HBE.out.trans (hs9.below HBE.out.size (fun j hj => by have := HBB.out; omega))⟩
        · simp only [CfgV.cfg, HLM.out]
        · obtain rfl : g = j := by simpa [blk] using hj
          exact ⟨HGG.out.1, hH9.blk⟩
        · obtain ⟨j, hj, rfl⟩ := List.getElem_of_mem hx
          have hj2 : j < L.length := hj
          have ho := HLO.out j hj (by omega)
          exact ho.save hs9 (fun i hi => ownb_bx ho HXR.out neU i hi)
end Go.Proofs.YtlholdllibghbaaGreat

