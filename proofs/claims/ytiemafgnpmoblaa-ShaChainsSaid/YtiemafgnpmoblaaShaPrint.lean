/- sha.Print: walked. -/
import Derived.Test.YtiemafgnpmoblaaArrB
import Derived.Test.YtiemafgnpmoblaaShaDef
import Derived.Test.YtiemafgnpmoblaaWordsLoad
import Derived.Test.YtiemafgnpmoblaaRepeat
import Derived.Test.YtiemafgnpmoblaaShaEat1
import Derived.IntWalk
namespace Go.Proofs.Ytiemafgnpmoblaa
open Go Go.RowKit Go.Cit

theorem row_tag : RowType Try.prog 36 32 := ⟨⟨_, Try.underlying36, rfl⟩, by kernel_rfl⟩
theorem alloc_tag (ρ : Operand → Value) (d : Option Tmp) (ty : TypeId) (ps : String) {af} (w : World) :
    (execOp ρ { dst := d, op := Op.alloc 36, type := ty, pos := ps, after := af, guard := none }).run Try.prog w = .ok (.value (.pointer (some ⟨w.heap.size, 0, none⟩))) (w.alloc (.cells ((List.replicate 32 (0 : UInt8)).map vb).toArray 36)) := by
  kernel_rfl
theorem tag_from (g k : Nat) (hk : k < 8) (w : World) : (Instr.sliceAt 36 (.pointer (some ⟨g, 0, none⟩)) (some (.int .i64 ((4 * k : Nat) : Int))) none none).run Try.prog w = .ok (.slice (some ⟨g, 4 * k, none⟩) (32 - 4 * k) (32 - 4 * k)) w := by
  have hT : Try.prog.underlying 36 = some (.array 32 5) := Try.underlying36
  have he : Try.prog.elem 36 = 5 := by simp [Program.elem, hT]
  have hl : Try.prog.arrayLen 36 = 32 := by simp [Program.arrayLen, hT]
  rw [run_sliceAt_array_l _ _ _ (by rw [he, hl]; exact hT) _ _ (by omega) (by rw [hl]; omega), he, szB, hl]
  have e : ((4 * k : Nat) : Int).toNat = 4 * k := by omega
  simp only [Result.andThen, slicedAt, e, if_neg (show ¬ 32 = 4 * k by omega), Addr.add]
  by_cases h0 : k = 0
  · subst h0; simp
  · simp; omega
/-- The first bytes of the print. -/
def prB (l : List UInt32) (k : Nat) : List UInt8 := (l.take k).flatMap fun x => rowB (qOfW x) 4
theorem prB_length (l : List UInt32) (k : Nat) (hk : k ≤ l.length) : (prB l k).length = 4 * k := by
  induction k with
  | zero => rfl
  | succ k ih =>
    have := ih (by omega)
    unfold prB at *
    rw [List.take_succ_eq_append_getElem (by omega), List.flatMap_append, List.length_append, this]
    simp [rowB_length]; omega
theorem prB_next (l : List UInt32) (k : Nat) (hk : k < l.length) : prB l k ++ rowB (qOfW l[k]) 4 = prB l (k + 1) := by
  unfold prB
  rw [List.take_succ_eq_append_getElem hk, List.flatMap_append]
  simp

def printC (g : Nat) (W : World) (l l' : List UInt8) (δ : Nat → Bool) (_ : Act) (wx : World) : Prop :=
  (δ 5 = false → Below W.heap.size W wx) ∧ Save (· ≠ g) W wx ∧ ArrB 36 wx g (if δ 5 then l' else l)
def printT (n0 g k : Nat) (x : UInt32) : Nat → Value → World → Prop
  | 11, v, _ => v = .int .i64 (k : Int)
  | 12, v, _ => v = .int .i64 ((4 * k : Nat) : Int)
  | 13, v, _ => v = .slice (some ⟨g, 4 * k, none⟩) (32 - 4 * k) (32 - 4 * k)
  | 14, v, _ => v = vw x
  | 15, v, w => ∃ a c, v = .slice a 4 c ∧ Go.Cit.Own 5 n0 w a (rowB (qOfW x) 4) c
  | 16, v, _ => v = .int .i64 4
  | _, _, _ => True
theorem printT_stay {n0 g k : Nat} {x : UInt32} {d : Nat} {v : Value} {w w' : World} (hs : Save (· ≠ g) w w') (hg : g < n0) (h : printT n0 g k x d v w) : printT n0 g k x d v w' := by
  unfold printT at *
  split at h <;> try (simp_all; done)
  obtain ⟨a, c, e, ho⟩ := h
  exact ⟨a, c, e, ho.save hs (fun b hb => by have := (ho.blk_ge hb).1; omega)⟩
theorem printC_pure {g : Nat} {W : World} {l l' : List UInt8} {δ : Nat → Bool} {a a' : Act} {wx w' : World} (h : printC g W l l' δ a wx) (hb : Below wx.heap.size wx w') {i : Nat} (hi : i ≠ 5) : printC g W l l' (upd δ i) a' w' := by
  obtain ⟨h1, h2, h3⟩ := h
  refine ⟨fun h => ?_, h2.trans (Save.of hb), ?_⟩
  · rw [upd_other δ hi] at h
    exact (h1 h).trans (hb.mono (h1 h).size)
  · rw [upd_other δ hi]
    exact h3.save (S := fun _ => True) (Save.of hb) trivial

set_option maxRecDepth 100000 in
set_option maxHeartbeats 4000000 in
theorem print_calls (w : World) (s : S8) :
    Calls Try.prog 18 #[.agg (s.l.map vw).toArray] w fun e w' => e = .returned (.agg ((printB s).map vb).toArray) ∧ Below w.heap.size w w' := by
  have HA := Lib.hid (fun ρ d ty ps af w => alloc_tag ρ d ty ps (af := af) w)
  obtain ⟨Y, hY⟩ : ∃ Y, Hid (Y = ((List.replicate 32 (0 : UInt8)).map vb).toArray) := ⟨_, rfl⟩
  obtain ⟨S, hS⟩ : ∃ S, Hid (S = (s.l.map vw).toArray) := ⟨_, rfl⟩
  rw [← hY.out] at HA
  rw [← hS.out]
  have HY : Hid (Y.size = 32) := by rw [Hid, hY.out]; simp
  have HSs : Hid (S.size = 8) := by rw [Hid, hS.out]; simp [S8.l]
  have hsl : s.l.length = 8 := rfl
  have HSL := Lib.hid hsl
  clear hsl
  go_enter Try.func18, Try.ntmps18
  have hsz : (((w.alloc (.cells S 24)).alloc (.cells Y 36)).alloc (.cells Y 36)).heap.size = w.heap.size + 3 := by simp
  have B0 : Below w.heap.size w (((w.alloc (.cells S 24)).alloc (.cells Y 36)).alloc (.cells Y 36)) := (((Below.refl _ w).alloc (Nat.le_refl _) _).alloc (by simp) _).alloc (by simp; omega) _
  have b0 : (((w.alloc (.cells S 24)).alloc (.cells Y 36)).alloc (.cells Y 36)).heap[w.heap.size]? = some (.cells S 24 (0, 0)) :=
    (Below.heap_alloc _ _ _ (by simp; omega)).trans ((Below.heap_alloc _ _ _ (by simp)).trans (heap_alloc_new w _))
  have b1 : (((w.alloc (.cells S 24)).alloc (.cells Y 36)).alloc (.cells Y 36)).heap[w.heap.size + 1]? = some (.cells Y 36 (0, 0)) := by
    refine (Below.heap_alloc _ _ _ (by simp)).trans ?_
    have := heap_alloc_new (w.alloc (.cells S 24)) (.cells Y 36)
    rwa [World.size_alloc] at this
  have b2 : (((w.alloc (.cells S 24)).alloc (.cells Y 36)).alloc (.cells Y 36)).heap[w.heap.size + 2]? = some (.cells Y 36 (0, 0)) := by
    have := heap_alloc_new ((w.alloc (.cells S 24)).alloc (.cells Y 36)) (.cells Y 36)
    rwa [World.size_alloc, World.size_alloc] at this
  have HLB := Lib.hid (And.intro hsz (And.intro B0 (And.intro b0 (And.intro b1 b2))))
  clear hsz B0 b0 b1 b2
  go_wp2_with (first
    | ((with_reducible refine wpList_boxB (o := ⟨some 1, .box _ (.tmp 0), _, _, _, _⟩) (.tmp 0) (by with_unfolding_all rfl) (by with_unfolding_all rfl) (by with_unfolding_all rfl) ?_))
    | ((with_reducible refine wpList_value (o := ⟨some 2, .alloc _, _, _, _, _⟩) (by with_unfolding_all rfl) (HA.out _ _ _ _ _ _) ?_))
    | ((with_reducible refine wpList_value (o := ⟨some 3, .alloc _, _, _, _, _⟩) (by with_unfolding_all rfl) (HA.out _ _ _ _ _ _) ?_))
    | ((with_reducible refine wpList_loadB (o := ⟨some 6, .load _ _, _, _, _, _⟩) row_state (.tmp 1) (by with_unfolding_all rfl) (by with_unfolding_all rfl) (by with_unfolding_all rfl) HLB.out.2.2.1 HSs.out ?_)))
  obtain ⟨hsz, B0, b0, b1, b2⟩ := HLB.out
  clear HLB
  generalize (((w.alloc (.cells S 24)).alloc (.cells Y 36)).alloc (.cells Y 36)) = W at hsz B0 b0 b1 b2 ⊢
  have A2 : ArrB 36 W (w.heap.size + 2) (prB s.l 0 ++ List.replicate (32 - 4 * 0) 0) := by rw [hY.out] at b2; exact b2
  have HB1 := Lib.hid b1
  clear b0 b1 b2
  go_loopw [7] (fun i wr => ∃ (k : Nat), k ≤ 8 ∧ i = .int .i64 k ∧ ArrB 36 wr (w.heap.size + 2) (prB s.l k ++ List.replicate (32 - 4 * k) 0) ∧ Save (· ≠ w.heap.size + 2) W wr) (fun i _ => 8 - (intOf i).toNat)
  case atStart => exact ⟨0, Nat.zero_le _, rfl, A2, Save.refl _ _⟩
  case round =>
    clear A2
    obtain ⟨k, hk, rfl, AX, hsv⟩ := hrel
    by_cases hlt : k < 8
    · have d1 : decide ((k : Int) < 8) = true := by simp; omega
      have hks : k < s.l.length := by rw [HSL.out]; exact hlt
      have ia : ∀ W, (Instr.index 24 (.agg S) (.int .i64 (k : Int))).run Try.prog W = .ok (vw s.l[k]) W := by
        intro W
        have := run_index_agg (T := 24) (C := S) W Try.underlying24 (szW W) (aggW W) HSs.out hlt
        rw [this]
        congr 1
        have e := hS.out
        subst e
        simp
      have HNX := Lib.hid (prB_next s.l k hks)
      generalize s.l[k] = x at ia HNX
      have hwr := hsv.size
      go_wp2_with fail
      have hPL := prB_length s.l k (by rw [HSL.out]; omega)
      refine wp_region_st (printC (w.heap.size + 2) wr (prB s.l k ++ List.replicate (32 - 4 * k) 0) (prB s.l (k + 1) ++ List.replicate (32 - 4 * (k + 1)) 0)) (fun _ wx w' => Save (· ≠ w.heap.size + 2) wx w') (printT wr.heap.size (w.heap.size + 2) k x) (by kernel_rfl) (by kernel_rfl) ?_ ?_ ?_ ?_
      · intro w' hb hh
        exact ⟨fun _ => hb, Save.of hb, AX.save (S := fun _ => True) (Save.of hb) trivial⟩
      · intro δ i j o v a w1 w2 _ _ _ _ _ _ hG h
        rcases hd : o.dst with _ | d
        · exact tyP_none hd _ _
        · rw [tyP_some hd] at h ⊢
          exact printT_stay hG (by omega) h
      · refine opsAll_cons ?_ (opsAll_cons ?_ (opsAll_cons ?_ (opsAll_cons ?_ (opsAll_cons ?_ (opsAll_cons ?_ opsAll_nil)))))
        all_goals intro δ wa wx hk
        · exact ⟨wanted_free rfl, gp_move (.tmp 4) rfl ⟨Save.refl _ _, printC_pure hk.inv (Below.refl _ _) (by decide), hk.old 4 (by kernel_rfl)⟩⟩
        · exact ⟨wanted_free rfl, gp_bin rfl (hk.lit _) (hk.slot 11 (by kernel_rfl)) (v := .int .i64 ((4 * k : Nat) : Int)) (fun w => by
            have e : IntKind.i64.wrap (4 * (k : Int)) = ((4 * k : Nat) : Int) := by rw [show (4 : Int) * (k : Int) = ((4 * k : Nat) : Int) by omega]; exact IntWalk.i64_in _ (by omega)
            go_simp
            try rw [e]) ⟨Save.refl _ _, printC_pure hk.inv (Below.refl _ _) (by decide), rfl⟩⟩
        · exact ⟨wanted_free rfl, gp_slice' rfl (hk.old 3 (by kernel_rfl)) (congrArg some (show wa.eval (.tmp 12) = _ from hk.slot 12 (by kernel_rfl))) rfl rfl (tag_from (w.heap.size + 2) k hlt wx) ⟨Save.refl _ _, printC_pure hk.inv (Below.refl _ _) (by decide), rfl⟩⟩
        · exact ⟨wanted_free rfl, gp_move (.tmp 5) rfl ⟨Save.refl _ _, printC_pure hk.inv (Below.refl _ _) (by decide), hk.old 5 (by kernel_rfl)⟩⟩
        · refine ⟨wanted_free rfl, gp_call rfl (hk.fn _) #[vw x] (fun w => by kernel_rfl) (by simp [show wa.eval (.tmp 14) = _ from hk.slot 14 (by kernel_rfl)]) ((put32_calls wx x).mono ?_)⟩
          rintro e w' ⟨a, c, rfl, ho, hb⟩
          have := (hk.inv.1 (hk.closed.yet 8 5 4 (by kernel_rfl) hk.yet)).size
          exact ⟨_, rfl, Save.of hb, printC_pure hk.inv hb (by decide), a, c, rfl, ho.low this⟩
        · obtain ⟨h1, h2, h3⟩ := hk.inv
          rw [hk.yet] at h3
          obtain ⟨a, c, e15, ho⟩ := hk.slot 15 (by kernel_rfl)
          have hrow := ho.isRow
          obtain ⟨ab, ao, rfl⟩ := hrow.spot (by intro h0; have := congrArg List.length h0; rw [rowB_length] at this; simp at this)
          have hm4 : (rowB (qOfW x) 4).length = 4 := rowB_length _ _
          have hcp := arrB_copy (rowB (qOfW x) 4) (prB s.l k) (List.replicate (32 - 4 * k) 0) wx h3 (by rw [hm4, List.length_replicate]; omega)
          rw [hPL, HNX.out, hm4, List.drop_replicate, show 32 - 4 * k - 4 = 32 - 4 * (k + 1) by omega] at hcp
          have hrun := run_copy_cells (P := Try.prog) wx 25 25 3 5 (w.heap.size + 2) (4 * k) (32 - 4 * k) (32 - 4 * k) ⟨ab, ao, none⟩ 4 c ((rowB (qOfW x) 4).map vb) Try.underlying25 (by kernel_rfl) (by rw [List.length_map, hm4]; show 4 = min 4 (32 - 4 * k); omega)
            (news_row hrow) (fun j hj => by
              rw [List.length_map, hm4] at hj
              rw [h3.cell (4 * k + j) (by simp [hPL]; omega)]; rfl)
            (fun j _ => h3.free _) (fun v hv => by obtain ⟨y, _, rfl⟩ := List.mem_map.1 hv; rfl)
          rw [List.length_map, hm4] at hrun
          refine ⟨wanted_free rfl, gp_copy (.tmp 13) (.tmp 15) rfl (hk.slot 13 (by kernel_rfl)) e15 hrun ⟨hcp.2, ⟨fun h => absurd h (by rw [upd_same]; decide), h2.trans hcp.2, by rw [upd_same]; exact hcp.1⟩, rfl⟩⟩
      intro δ wa wx hall hC hsame hT
      obtain ⟨_, hSv, hcE⟩ := hC
      rw [hall 5 (by decide), if_pos rfl] at hcE
      obtain ⟨a15, c15, e15, _⟩ := hT 15 (by kernel_rfl)
      have he := act_same hsame [11, 12, 13, 14, 15, 16] (by kernel_rfl)
      simp only [List.foldl_cons, List.foldl_nil] at he
      rw [show wa.eval (.tmp 11) = _ from hT 11 (by kernel_rfl), show wa.eval (.tmp 12) = _ from hT 12 (by kernel_rfl), show wa.eval (.tmp 13) = _ from hT 13 (by kernel_rfl), show wa.eval (.tmp 14) = _ from hT 14 (by kernel_rfl), e15, show wa.eval (.tmp 16) = _ from hT 16 (by kernel_rfl)] at he
      subst he
      have HCE := Lib.hid hcE
      have HSV := Lib.hid (hsv.trans hSv)
      clear hT hsame hall hcE hSv hsv AX hPL e15
      go_wp2_with fail
      go_roundw
      case rel => exact ⟨k + 1, by omega, by go_num, HCE.out, HSV.out⟩
      case measure => simp [intOf]; omega
    · have hk2 : k = 8 := by omega
      have d1 : decide ((k : Int) < 8) = false := by simp; omega
      obtain ⟨E, hE⟩ : ∃ E, Hid (E = ((printB s).map vb).toArray) := ⟨_, rfl⟩
      have hpl : (printB s).length = 32 := prB_length s.l 8 (Nat.le_refl 8)
      have HE1 : Hid (E.size = 32) := by rw [Hid, hE.out]; simp [hpl]
      have HEO : Hid (E.all (·.oneCell') = true) := by rw [Hid, hE.out]; exact arrB_ok _
      have HA1 : Hid (wr.heap[w.heap.size + 2]? = some (.cells E 36 (0, 0))) := by
        rw [Hid, hE.out]; rw [hk2] at AX
        have e : prB s.l 8 = printB s := rfl
        rw [e, show 32 - 4 * 8 = 0 from rfl, List.replicate_zero, List.append_nil] at AX
        exact AX
      have HA6 : Hid (wr.heap[w.heap.size + 1]? = some (.cells Y 36 (0, 0))) := (hsv.block _ (by omega) (by omega)).trans HB1.out
      clear hk2 AX
      go_wp2_with (first
        | ((with_reducible refine wpList_loadB (o := ⟨some 18, .load _ _, _, _, _, _⟩) row_tag (.tmp 3) (by with_unfolding_all rfl) (by with_unfolding_all rfl) (by with_unfolding_all rfl) HA1.out HE1.out ?_))
        | ((with_reducible refine wpList_storeB (o := ⟨none, .store _ (.tmp 2) (.tmp 18), _, _, _, _⟩) row_tag (.tmp 2) (.tmp 18) (by with_unfolding_all rfl) (by with_unfolding_all rfl) (by with_unfolding_all rfl) (by with_unfolding_all rfl) (by with_unfolding_all rfl) HA6.out HY.out HE1.out HEO.out ?_); intro w4 hb4 hS4))
      refine bodyPost_ret (resB1 row_tag rfl rfl hb4 HE1.out) rfl ⟨by rw [hE.out], ?_⟩
      have h1 := B0.size
      have h2 := hsv.size
      exact B0.trans (((hsv.below (B := w.heap.size) (by omega) (fun j hj => by omega))).trans (hS4.below (by omega) (fun j hj => by omega)))
end Go.Proofs.Ytiemafgnpmoblaa
