/- The reference's reader's Tag: contract. -/
import Derived.Test.YtglmijcfdcajkaaRefGet2
namespace Go.Proofs.Ytglmijcfdcajkaa
open Go Go.RowKit Go.Cit

theorem set_tab {w : World} {b i : Nat} {U : List UInt8} {T : TypeId} {fr : Nat × Nat} (h : w.heap[b]? = some (.cells (U.map vb).toArray T fr)) (x : UInt8) : (w.setCell ⟨b, i, none⟩ (vb x)).heap[b]? = some (.cells ((U.set i x).map vb).toArray T fr) := by
  simp [World.setCell, Array.getElem?_modify, h, List.map_set]

theorem mix_next (X Z : List UInt8) (i : Nat) (hi : i < X.length) (hz : X.length ≤ Z.length) : (X.take i ++ Z.drop i).set i X[i] = X.take (i + 1) ++ Z.drop (i + 1) := by
  have hl : (X.take i).length = i := by rw [List.length_take]; omega
  rw [List.set_append_right _ _ (by omega), hl, Nat.sub_self, List.drop_eq_getElem_cons (show i < Z.length by omega), List.set_cons_zero, List.take_succ_eq_append_getElem hi, List.append_assoc]
  rfl

theorem tag_mix (s : St) : (s.read 32 fTag zeros32) = ((s.read 32 fAll []).1 ++ zeros32.drop (s.read 32 fAll []).1.length, (s.read 32 fAll []).2) ∧ (s.read 32 fAll []).1.length ≤ 32 := by
  unfold St.read
  rcases num_cases s 32 with ⟨x, s', h1, h2, h3⟩ | ⟨s', h1, h3⟩
  · rw [h1]
    have : zeros32.drop x.length = [] := List.drop_eq_nil_of_le (by simp [zeros32]; omega)
    simp [fTag, fAll, this]; omega
  · rw [h1]; simp

set_option maxRecDepth 100000 in
set_option maxHeartbeats 4000000 in
theorem rftag_calls {base top w b s} (h : RfAt base top w b s) (ht : top ≤ w.heap.size) (hb : b < w.heap.size) :
    Calls Try.prog 60 #[.pointer (some ⟨b, 0, none⟩)] w fun r w' => r = .returned (.agg ((s.read 32 fTag zeros32).1.map vb).toArray) ∧ RfAt base top w' b (s.read 32 fTag zeros32).2 ∧ Save (· ≠ b) w w' := by
  have HM := Lib.hid (tag_mix s)
  have HA := Lib.hid (fun ρ d ty ps af w => alloc_tag ρ d ty ps (af := af) w)
  have HZ := Lib.hid (tag_cells zeros32 rfl)
  have g1 : Below w.heap.size w (w.alloc (.cells (zeros32.map vb).toArray 29)) := (Below.refl _ _).alloc (Nat.le_refl _) _
  have g2 : Below w.heap.size w ((w.alloc (.cells (zeros32.map vb).toArray 29)).alloc (.cells (zeros32.map vb).toArray 29)) := g1.alloc (by simp) _
  have k2 : ((w.alloc (.cells (zeros32.map vb).toArray 29)).alloc (.cells (zeros32.map vb).toArray 29)).heap[w.heap.size]? = some (.cells (zeros32.map vb).toArray 29 (0, 0)) := (Below.heap_alloc _ _ _ (by simp)).trans (heap_alloc_new w _)
  have k3 : ((w.alloc (.cells (zeros32.map vb).toArray 29)).alloc (.cells (zeros32.map vb).toArray 29)).heap[w.heap.size + 1]? = some (.cells (zeros32.map vb).toArray 29 (0, 0)) := by
    have := heap_alloc_new (w.alloc (.cells (zeros32.map vb).toArray 29)) (.cells (zeros32.map vb).toArray 29); simpa using this
  have hk := rfnext_calls (h.stay g2) 32 (by decide)
  rw [show ((32 : Nat) : Int) = 32 from rfl] at hk
  have HX0 : Hid ((s.read 32 fAll []).1.length ≤ 32) := HM.out.2
  have HM := Lib.hid HM.out.1
  obtain ⟨q, hq⟩ : ∃ q, Hid (q = s.read 32 fAll []) := ⟨_, rfl⟩
  obtain ⟨ok, hok⟩ : ∃ ok, Hid (ok = (s.next 32).1.isSome) := ⟨_, rfl⟩
  rw [← hq.out, ← hok.out] at hk
  rw [← hq.out] at HM HX0
  obtain ⟨q1, q2⟩ := q
  obtain ⟨W, hW⟩ : ∃ W, Hid (W = ((w.alloc (.cells (zeros32.map vb).toArray 29)).alloc (.cells (zeros32.map vb).toArray 29))) := ⟨_, rfl⟩
  have SZ : Hid (W.heap.size = w.heap.size + 2) := by rw [Hid, hW.out]; simp
  rw [← hW.out] at k2 k3 hk g2
  have K2 := Lib.hid k2
  have K3 := Lib.hid k3
  obtain ⟨Z, hZ⟩ : ∃ Z, Hid (Z = (zeros32.map vb).toArray) := ⟨_, rfl⟩
  have HA2 := HA
  rw [← hZ.out] at HA2 hW HZ
  clear k2 k3 g1 h HA
  go_enter Try.func60, Try.ntmps60
  go_wp2_with (first | ((with_reducible refine wpList_value (o := ⟨some 2, .alloc _, _, _, _, _⟩) (by with_unfolding_all rfl) (HA2.out _ _ _ _ _ _) ?_)) | ((with_reducible refine wpList_value (o := ⟨some 3, .alloc _, _, _, _, _⟩) (by with_unfolding_all rfl) (HA2.out _ _ _ _ _ _) ?_)))
  rw [← hW.out]
  refine Calls.mono hk ?_
  rintro r w1 ⟨a1, X, c1, HX, rfl, hm, hR, hS⟩
  have hs1 := hS.size
  have s0 := SZ.out
  have K2b := Lib.hid ((hS.block w.heap.size (by omega) (by omega)).trans K2.out)
  have K3b := Lib.hid ((hS.block (w.heap.size + 1) (by omega) (by omega)).trans K3.out)
  have hXl : X.length ≤ 32 := by rw [HX.out]; exact HX0.out
  have HT : Hid (((s.read 32 fTag zeros32).1 = X ++ zeros32.drop X.length) ∧ (s.read 32 fTag zeros32).2 = q2) := by rw [Hid, HM.out, HX.out]; exact ⟨rfl, rfl⟩
  have hnew : ∀ g, Go.Cit.blk a1 = some g → g ≠ w.heap.size + 1 := fun g hg => by have := hm.new g hg; omega
  clear hk
  go_wp2_with fail
  go_loopw [6] (fun i wx => ∃ (t : Nat) (U : List UInt8), Hid (U = X.take t ++ zeros32.drop t) ∧ t ≤ X.length ∧ i = .int .i64 t ∧ Hid (wx.heap[w.heap.size + 1]? = some (.cells (U.map vb).toArray 29 (0, 0))) ∧ Save (· ≠ w.heap.size + 1) w1 wx) (fun i _ => X.length - (intOf i).toNat)
  case atStart => exact ⟨0, zeros32, by rw [Hid]; simp, Nat.zero_le _, rfl, K3b, Save.refl _ _⟩
  case round =>
    clear K3b
    obtain ⟨t, U, HU, ht2, rfl, K3c, S2⟩ := hrel
    have hUl : U.length = 32 := by rw [HU.out]; simp [zeros32]; omega
    have rX := hm.row.save S2 hnew
    by_cases hlt : t < X.length
    · have i0 := rX.index bt.slice bt.sz t hlt
      have e0 := rX.cell t hlt
      have f0 : wr.frozen? ⟨w.heap.size + 1, t, none⟩ = false := by simp [World.frozen?, K3c.out]
      have d0 : wr.cell? ⟨w.heap.size + 1, t, none⟩ = some (vb (U[t]'(by omega))) := by rw [World.cell?, K3c.out]; exact (show (U.map vb).toArray[t]? = _ by simp [List.getElem?_eq_getElem (show t < U.length by omega)])
      have HN : Hid ((wr.setCell ⟨w.heap.size + 1, t, none⟩ (vb X[t])).heap[w.heap.size + 1]? = some (.cells ((U.set t X[t]).map vb).toArray 29 (0, 0))) := set_tab K3c.out X[t]
      have HM2 : Hid (U.set t X[t] = X.take (t + 1) ++ zeros32.drop (t + 1)) := by rw [Hid, HU.out]; exact mix_next _ _ _ hlt (by simpa [zeros32] using hXl)
      go_wp2_with fail
      go_roundw
      case rel => exact ⟨t + 1, _, HM2, hlt, by go_num, HN, S2.trans Save.set⟩
      case measure => simp [intOf]; omega
    · have HU2 : Hid (U = X ++ zeros32.drop X.length) := by rw [Hid, HU.out, show t = X.length by omega, List.take_length]
      have HC := Lib.hid (tag_cells U hUl)
      have K2c := Lib.hid ((S2.block w.heap.size (by omega) (by omega)).trans K2b.out)
      have hUT : Hid (((s.read 32 fTag zeros32).1.map vb).toArray = (U.map vb).toArray) := by rw [Hid, HT.out.1, HU2.out]
      rw [← hZ.out] at K2c
      generalize (U.map vb).toArray = T at *
      go_wp2_with (first | ((with_reducible refine wpList_loadB (o := ⟨some 24, .load 29 (.tmp 3), _, _, _, _⟩) tagRow (.tmp 3) (by with_unfolding_all rfl) (by with_unfolding_all rfl) (by with_unfolding_all rfl) K3c.out HC.out.1 ?_)) | ((with_reducible refine wpList_storeB (o := ⟨none, .store 29 (.tmp 2) (.tmp 24), _, _, _, _⟩) tagRow (.tmp 2) (.tmp 24) (by with_unfolding_all rfl) (by with_unfolding_all rfl) (by with_unfolding_all rfl) (by with_unfolding_all rfl) (by with_unfolding_all rfl) K2c.out HZ.out.1 HC.out.1 HC.out.2 ?_); intro w4 hb4 hS4))
      have hs2 := S2.size
      refine bodyPost_ret (resB1 tagRow rfl rfl hb4 HC.out.1) rfl ⟨by rw [hUT.out], ?_, ?_⟩
      · rw [HT.out.2]; exact (hR.save S2 (by omega) (fun g _ hg => by omega)).save hS4 (by omega) (fun g _ hg => by omega)
      · have hS5 : Save (fun k => k < w.heap.size ∧ k ≠ b) w w4 := (Save.of g2).trans ((hS.less (fun k _ hk => hk.2)).trans ((S2.less (fun k _ hk => by omega)).trans (hS4.less (fun k _ hk => by omega))))
        exact hS5.less (fun k hk hkb => ⟨hk, hkb⟩)
end Go.Proofs.Ytglmijcfdcajkaa
