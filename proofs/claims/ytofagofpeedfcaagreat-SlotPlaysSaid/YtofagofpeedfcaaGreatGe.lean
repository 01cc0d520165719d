/- Texts of the proof, one behind the other: ArrB, ShaPrint, ShaTail, ShaSum, Vec, RefSha, RefShaN, RefShaE, Eq, TyB, RefShaP. No condition but those that each names. -/
import Derived.Test.YtofagofpeedfcaaGreatGd
import Derived.Test.YtofagofpeedfcaaGreatGb
import Derived.Test.YtofagofpeedfcaaGreatGc
import Derived.IntWalk
import Derived.Great.BuildSlice
import Derived.Great.FillDense
import Derived.Test.YtofagofpeedfcaaGreatGa
import Derived.StillTailTactics
import Derived.Deep.RegionLaw
import Derived.BigRegion
import Derived.DeepKeys
import Derived.Laws.StructEq
/- Variables that hold an array of bytes; an array's element by its value. -/
namespace Go.Proofs.YtofagofpeedfcaaGreat
open Go Go.RowKit Go.Cit

/-- The variable in block b, of type T, holds the bytes l. -/
def ArrB (T : TypeId) (w : World) (b : Nat) (l : List UInt8) : Prop := w.heap[b]? = some (.cells (l.map vb).toArray T (0, 0))
theorem ArrB.lt {T w b l} (h : ArrB T w b l) : b < w.heap.size := (Array.getElem?_eq_some_iff.1 h).1
theorem ArrB.cell {T w b l} (h : ArrB T w b l) (i : Nat) (hi : i < l.length) : w.cell? ⟨b, i, none⟩ = some (vb l[i]) := by
  rw [World.cell?, h]; simp [hi]
theorem ArrB.free {T w b l} (h : ArrB T w b l) (i : Nat) : w.frozen? ⟨b, i, none⟩ = false := by simp [World.frozen?, show w.heap[b]? = _ from h]
theorem ArrB.set {T w b l} (h : ArrB T w b l) (i : Nat) (x : UInt8) : ArrB T (w.setCell ⟨b, i, none⟩ (vb x)) b (l.set i x) := by
  unfold ArrB at *
  simp [World.setCell, Array.getElem?_modify, h, List.map_set]
theorem ArrB.save {S : Nat → Prop} {T w w' b l} (h : ArrB T w b l) (hs : Save S w w') (hb : S b) : ArrB T w' b l := (hs.block b h.lt hb).trans h
theorem arrB_ok (l : List UInt8) : (l.map vb).toArray.all (·.oneCell') = true := by simp [Value.oneCell']
/-- The array's bytes as a row. -/
theorem ArrB.row {T w b l} (h : ArrB T w b l) (hl : l.length ≤ 1000000000) : Row w (some ⟨b, 0, none⟩) l l.length := row_blk l h rfl hl

theorem arrB_copy {T : TypeId} {b : Nat} : ∀ (m A R : List UInt8) (w : World), ArrB T w b (A ++ R) → m.length ≤ R.length → ArrB T (w.setCells b A.length (m.map vb)) b (A ++ m ++ R.drop m.length) ∧ Save (· ≠ b) w (w.setCells b A.length (m.map vb))
  | [], A, R, w, h, _ => by
    rw [List.append_nil]; exact ⟨h, Save.refl _ _⟩
  | x :: m, A, [], w, h, hl => absurd hl (by simp)
  | x :: m, A, y :: R, w, h, hl => by
    have h1 := h.set A.length x
    rw [List.set_append_right _ _ (Nat.le_refl _), Nat.sub_self, List.set_cons_zero, show A ++ x :: R = (A ++ [x]) ++ R by simp] at h1
    have h2 := arrB_copy m (A ++ [x]) R _ h1 (by simpa using hl)
    rw [List.length_append, List.length_singleton] at h2
    refine ⟨?_, Save.set.trans h2.2⟩
    have := h2.1
    simpa [World.setCells] using this

theorem run_index_agg {P : Program} {T E : TypeId} {n k : Nat} {C : Array Value} (w : World) (hT : P.underlying T = some (.array n E)) (hs : (sizeOf E).run P w = .ok 1 w) (hA : (isAgg E).run P w = .ok false w) (hC : C.size = n) (hk : k < n) :
    (Instr.index T (.agg C) (.int .i64 (k : Int))).run P w = .ok C[k] w := by
  have hk' : (0 : Int) ≤ (k : Int) ∧ (k : Int) < (n : Int) := by omega
  have hkC : k < C.size := by omega
  simp [Instr.index, run_underlying hT, asIntOf, hs, hA, part, go_sem, hkC, hk]
theorem aggW : ∀ w, (isAgg 96).run Tryz.prog w = .ok false w := by intro w; kernel_rfl
theorem aggB : ∀ w, (isAgg 5).run Tryz.prog w = .ok false w := by intro w; kernel_rfl
theorem szB : ∀ w, (sizeOf 5).run Tryz.prog w = .ok 1 w := by intro w; kernel_rfl
end Go.Proofs.YtofagofpeedfcaaGreat

/- sha.Print: walked. -/
namespace Go.Proofs.YtofagofpeedfcaaGreat
open Go Go.RowKit Go.Cit

theorem row_tag : RowType Tryz.prog 54 32 := ⟨⟨_, Tryz.underlying54, rfl⟩, by kernel_rfl⟩
theorem alloc_tag (ρ : Operand → Value) (d : Option Tmp) (ty : TypeId) (ps : String) {af} (w : World) :
    (execOp ρ { dst := d, op := Op.alloc 54, type := ty, pos := ps, after := af, guard := none }).run Tryz.prog w = .ok (.value (.pointer (some ⟨w.heap.size, 0, none⟩))) (w.alloc (.cells ((List.replicate 32 (0 : UInt8)).map vb).toArray 54)) := by
  kernel_rfl
theorem tag_from (g k : Nat) (hk : k < 8) (w : World) : (Instr.sliceAt 54 (.pointer (some ⟨g, 0, none⟩)) (some (.int .i64 ((4 * k : Nat) : Int))) none none).run Tryz.prog w = .ok (.slice (some ⟨g, 4 * k, none⟩) (32 - 4 * k) (32 - 4 * k)) w := by
  have hT : Tryz.prog.underlying 54 = some (.array 32 5) := Tryz.underlying54
  have he : Tryz.prog.elem 54 = 5 := by simp [Program.elem, hT]
  have hl : Tryz.prog.arrayLen 54 = 32 := by simp [Program.arrayLen, hT]
  rw [run_sliceAt_array_l _ _ _ (by rw [he, hl]; exact hT) _ _ (by omega) (by rw [hl]; omega), he, szB, hl]
  have e : ((4 * k : Nat) : Int).toNat = 4 * k := by omega
  simp only [Result.andThen, slicedAt, e, if_neg (show ¬ 32 = 4 * k by omega), Addr.add]
  by_cases h0 : k = 0
  · subst h0; simp
  · simp; omega
/-- The first bytes of the print. -/
def prB (l : List UInt32) (k : Nat) : List UInt8 := (l.take k).flatMap fun x => rowB (qOfW x) 4
theorem prB_length (l : List UInt32) (k : Nat) (hk : k ≤ l.length) : (prB l k).length = 4 * k := by
  induction k with
  | zero => rfl
  | succ k ih =>
    have := ih (by omega)
    unfold prB at *
    rw [List.take_succ_eq_append_getElem (by omega), List.flatMap_append, List.length_append, this]
    simp [rowB_length]; omega
theorem prB_next (l : List UInt32) (k : Nat) (hk : k < l.length) : prB l k ++ rowB (qOfW l[k]) 4 = prB l (k + 1) := by
  unfold prB
  rw [List.take_succ_eq_append_getElem hk, List.flatMap_append]
  simp

def printC (g : Nat) (W : World) (l l' : List UInt8) (δ : Nat → Bool) (_ : Act) (wx : World) : Prop :=
  (δ 5 = false → Below W.heap.size W wx) ∧ Save (· ≠ g) W wx ∧ ArrB 54 wx g (if δ 5 then l' else l)
def printT (n0 g k : Nat) (x : UInt32) : Nat → Value → World → Prop
  | 11, v, _ => v = .int .i64 (k : Int)
  | 12, v, _ => v = .int .i64 ((4 * k : Nat) : Int)
  | 13, v, _ => v = .slice (some ⟨g, 4 * k, none⟩) (32 - 4 * k) (32 - 4 * k)
  | 14, v, _ => v = vw x
  | 15, v, w => ∃ a c, v = .slice a 4 c ∧ Go.Cit.Own 5 n0 w a (rowB (qOfW x) 4) c
  | 16, v, _ => v = .int .i64 4
  | _, _, _ => True
theorem printT_stay {n0 g k : Nat} {x : UInt32} {d : Nat} {v : Value} {w w' : World} (hs : Save (· ≠ g) w w') (hg : g < n0) (h : printT n0 g k x d v w) : printT n0 g k x d v w' := by
  unfold printT at *
  split at h <;> try (simp_all; done)
  obtain ⟨a, c, e, ho⟩ := h
  exact ⟨a, c, e, ho.save hs (fun b hb => by have := (ho.blk_ge hb).1; omega)⟩
theorem printC_pure {g : Nat} {W : World} {l l' : List UInt8} {δ : Nat → Bool} {a a' : Act} {wx w' : World} (h : printC g W l l' δ a wx) (hb : Below wx.heap.size wx w') {i : Nat} (hi : i ≠ 5) : printC g W l l' (upd δ i) a' w' := by
  obtain ⟨h1, h2, h3⟩ := h
  refine ⟨fun h => ?_, h2.trans (Save.of hb), ?_⟩
  · rw [upd_other δ hi] at h
    exact (h1 h).trans (hb.mono (h1 h).size)
  · rw [upd_other δ hi]
    exact h3.save (S := fun _ => True) (Save.of hb) trivial

set_option maxRecDepth 100000 in
set_option maxHeartbeats 4000000 in
theorem print_calls (w : World) (s : S8) :
    Calls Tryz.prog 70 #[.agg (s.l.map vw).toArray] w fun e w' => e = .returned (.agg ((printB s).map vb).toArray) ∧ Below w.heap.size w w' := by
  have HA := Lib.hid (fun ρ d ty ps af w => alloc_tag ρ d ty ps (af := af) w)
  obtain ⟨Y, hY⟩ : ∃ Y, Hid (Y = ((List.replicate 32 (0 : UInt8)).map vb).toArray) := ⟨_, rfl⟩
  obtain ⟨S, hS⟩ : ∃ S, Hid (S = (s.l.map vw).toArray) := ⟨_, rfl⟩
  rw [← hY.out] at HA
  rw [← hS.out]
  have HY : Hid (Y.size = 32) := by rw [Hid, hY.out]; simp
  have HSs : Hid (S.size = 8) := by rw [Hid, hS.out]; simp [S8.l]
  have hsl : s.l.length = 8 := rfl
  have HSL := Lib.hid hsl
  clear hsl
  go_enter Tryz.func70, Tryz.ntmps70
  have hsz : (((w.alloc (.cells S 101)).alloc (.cells Y 54)).alloc (.cells Y 54)).heap.size = w.heap.size + 3 := by simp
  have B0 : Below w.heap.size w (((w.alloc (.cells S 101)).alloc (.cells Y 54)).alloc (.cells Y 54)) := (((Below.refl _ w).alloc (Nat.le_refl _) _).alloc (by simp) _).alloc (by simp; omega) _
  have b0 : (((w.alloc (.cells S 101)).alloc (.cells Y 54)).alloc (.cells Y 54)).heap[w.heap.size]? = some (.cells S 101 (0, 0)) :=
    (Below.heap_alloc _ _ _ (by simp; omega)).trans ((Below.heap_alloc _ _ _ (by simp)).trans (heap_alloc_new w _))
  have b1 : (((w.alloc (.cells S 101)).alloc (.cells Y 54)).alloc (.cells Y 54)).heap[w.heap.size + 1]? = some (.cells Y 54 (0, 0)) := by
    refine (Below.heap_alloc _ _ _ (by simp)).trans ?_
    have := heap_alloc_new (w.alloc (.cells S 101)) (.cells Y 54)
    rwa [World.size_alloc] at this
  have b2 : (((w.alloc (.cells S 101)).alloc (.cells Y 54)).alloc (.cells Y 54)).heap[w.heap.size + 2]? = some (.cells Y 54 (0, 0)) := by
    have := heap_alloc_new ((w.alloc (.cells S 101)).alloc (.cells Y 54)) (.cells Y 54)
    rwa [World.size_alloc, World.size_alloc] at this
  have HLB := Lib.hid (And.intro hsz (And.intro B0 (And.intro b0 (And.intro b1 b2))))
  clear hsz B0 b0 b1 b2
  go_wp2_with (first
    | ((with_reducible refine wpList_boxB (o := ⟨some 1, .box _ (.tmp 0), _, _, _, _⟩) (.tmp 0) (by with_unfolding_all rfl) (by with_unfolding_all rfl) (by with_unfolding_all rfl) ?_))
    | ((with_reducible refine wpList_value (o := ⟨some 2, .alloc _, _, _, _, _⟩) (by with_unfolding_all rfl) (HA.out _ _ _ _ _ _) ?_))
    | ((with_reducible refine wpList_value (o := ⟨some 3, .alloc _, _, _, _, _⟩) (by with_unfolding_all rfl) (HA.out _ _ _ _ _ _) ?_))
    | ((with_reducible refine wpList_loadB (o := ⟨some 6, .load _ _, _, _, _, _⟩) row_state (.tmp 1) (by with_unfolding_all rfl) (by with_unfolding_all rfl) (by with_unfolding_all rfl) HLB.out.2.2.1 HSs.out ?_)))
  obtain ⟨hsz, B0, b0, b1, b2⟩ := HLB.out
  clear HLB
  generalize (((w.alloc (.cells S 101)).alloc (.cells Y 54)).alloc (.cells Y 54)) = W at hsz B0 b0 b1 b2 ⊢
  have A2 : ArrB 54 W (w.heap.size + 2) (prB s.l 0 ++ List.replicate (32 - 4 * 0) 0) := by rw [hY.out] at b2; exact b2
  have HB1 := Lib.hid b1
  clear b0 b1 b2
  go_loopw [7] (fun i wr => ∃ (k : Nat), k ≤ 8 ∧ i = .int .i64 k ∧ ArrB 54 wr (w.heap.size + 2) (prB s.l k ++ List.replicate (32 - 4 * k) 0) ∧ Save (· ≠ w.heap.size + 2) W wr) (fun i _ => 8 - (intOf i).toNat)
  case atStart => exact ⟨0, Nat.zero_le _, rfl, A2, Save.refl _ _⟩
  case round =>
    clear A2
    obtain ⟨k, hk, rfl, AX, hsv⟩ := hrel
    by_cases hlt : k < 8
    · have d1 : decide ((k : Int) < 8) = true := by simp; omega
      have hks : k < s.l.length := by rw [HSL.out]; exact hlt
      have ia : ∀ W, (Instr.index 101 (.agg S) (.int .i64 (k : Int))).run Tryz.prog W = .ok (vw s.l[k]) W := by
        intro W
        have := run_index_agg (T := 101) (C := S) W Tryz.underlying101 (szW W) (aggW W) HSs.out hlt
        rw [this]
        congr 1
        have e := hS.out
        subst e
        simp
      have HNX := Lib.hid (prB_next s.l k hks)
      generalize s.l[k] = x at ia HNX
      have hwr := hsv.size
      go_wp2_with fail
      have hPL := prB_length s.l k (by rw [HSL.out]; omega)
      refine wp_region_st (printC (w.heap.size + 2) wr (prB s.l k ++ List.replicate (32 - 4 * k) 0) (prB s.l (k + 1) ++ List.replicate (32 - 4 * (k + 1)) 0)) (fun _ wx w' => Save (· ≠ w.heap.size + 2) wx w') (printT wr.heap.size (w.heap.size + 2) k x) (by kernel_rfl) (by kernel_rfl) ?_ ?_ ?_ ?_
      · intro w' hb hh
        exact ⟨fun _ => hb, Save.of hb, AX.save (S := fun _ => True) (Save.of hb) trivial⟩
      · intro δ i j o v a w1 w2 _ _ _ _ _ _ hG h
        rcases hd : o.dst with _ | d
        · exact tyP_none hd _ _
        · rw [tyP_some hd] at h ⊢
          exact printT_stay hG (by omega) h
      · refine opsAll_cons ?_ (opsAll_cons ?_ (opsAll_cons ?_ (opsAll_cons ?_ (opsAll_cons ?_ (opsAll_cons ?_ opsAll_nil)))))
        all_goals intro δ wa wx hk
        · exact ⟨wanted_free rfl, gp_move (.tmp 4) rfl ⟨Save.refl _ _, printC_pure hk.inv (Below.refl _ _) (by decide), hk.old 4 (by kernel_rfl)⟩⟩
        · exact ⟨wanted_free rfl, gp_bin rfl (hk.lit _) (hk.slot 11 (by kernel_rfl)) (v := .int .i64 ((4 * k : Nat) : Int)) (fun w => by
            have e : IntKind.i64.wrap (4 * (k : Int)) = ((4 * k : Nat) : Int) := by rw [show (4 : Int) * (k : Int) = ((4 * k : Nat) : Int) by omega]; exact IntWalk.i64_in _ (by omega)
            go_simp
            try rw [e]) ⟨Save.refl _ _, printC_pure hk.inv (Below.refl _ _) (by decide), rfl⟩⟩
        · exact ⟨wanted_free rfl, gp_slice' rfl (hk.old 3 (by kernel_rfl)) (congrArg some (show wa.eval (.tmp 12) = _ from hk.slot 12 (by kernel_rfl))) rfl rfl (tag_from (w.heap.size + 2) k hlt wx) ⟨Save.refl _ _, printC_pure hk.inv (Below.refl _ _) (by decide), rfl⟩⟩
        · exact ⟨wanted_free rfl, gp_move (.tmp 5) rfl ⟨Save.refl _ _, printC_pure hk.inv (Below.refl _ _) (by decide), hk.old 5 (by kernel_rfl)⟩⟩
        · refine ⟨wanted_free rfl, gp_call rfl (hk.fn _) #[vw x] (fun w => by kernel_rfl) (by simp [show wa.eval (.tmp 14) = _ from hk.slot 14 (by kernel_rfl)]) ((put32_calls wx x).mono ?_)⟩
          rintro e w' ⟨a, c, rfl, ho, hb⟩
          have := (hk.inv.1 (hk.closed.yet 8 5 4 (by kernel_rfl) hk.yet)).size
          exact ⟨_, rfl, Save.of hb, printC_pure hk.inv hb (by decide), a, c, rfl, ho.low this⟩
        · obtain ⟨h1, h2, h3⟩ := hk.inv
          rw [hk.yet] at h3
          obtain ⟨a, c, e15, ho⟩ := hk.slot 15 (by kernel_rfl)
          have hrow := ho.isRow
          obtain ⟨ab, ao, rfl⟩ := hrow.spot (by intro h0; have := congrArg List.length h0; rw [rowB_length] at this; simp at this)
          have hm4 : (rowB (qOfW x) 4).length = 4 := rowB_length _ _
          have hcp := arrB_copy (rowB (qOfW x) 4) (prB s.l k) (List.replicate (32 - 4 * k) 0) wx h3 (by rw [hm4, List.length_replicate]; omega)
          rw [hPL, HNX.out, hm4, List.drop_replicate, show 32 - 4 * k - 4 = 32 - 4 * (k + 1) by omega] at hcp
          have hrun := run_copy_cells (P := Tryz.prog) wx 31 31 3 5 (w.heap.size + 2) (4 * k) (32 - 4 * k) (32 - 4 * k) ⟨ab, ao, none⟩ 4 c ((rowB (qOfW x) 4).map vb) Tryz.underlying31 (by kernel_rfl) (by rw [List.length_map, hm4]; show 4 = min 4 (32 - 4 * k); omega)
            (news_row hrow) (fun j hj => by
              rw [List.length_map, hm4] at hj
              rw [h3.cell (4 * k + j) (by simp [hPL]; omega)]; rfl)
            (fun j _ => h3.free _) (fun v hv => by obtain ⟨y, _, rfl⟩ := List.mem_map.1 hv; rfl)
          rw [List.length_map, hm4] at hrun
          refine ⟨wanted_free rfl, gp_copy (.tmp 13) (.tmp 15) rfl (hk.slot 13 (by kernel_rfl)) e15 hrun ⟨hcp.2, ⟨fun h => absurd h (by rw [upd_same]; decide), h2.trans hcp.2, by rw [upd_same]; exact hcp.1⟩, rfl⟩⟩
      intro δ wa wx hall hC hsame hT
      obtain ⟨_, hSv, hcE⟩ := hC
      rw [hall 5 (by decide), if_pos rfl] at hcE
      obtain ⟨a15, c15, e15, _⟩ := hT 15 (by kernel_rfl)
      have he := act_same hsame [11, 12, 13, 14, 15, 16] (by kernel_rfl)
      simp only [List.foldl_cons, List.foldl_nil] at he
      rw [show wa.eval (.tmp 11) = _ from hT 11 (by kernel_rfl), show wa.eval (.tmp 12) = _ from hT 12 (by kernel_rfl), show wa.eval (.tmp 13) = _ from hT 13 (by kernel_rfl), show wa.eval (.tmp 14) = _ from hT 14 (by kernel_rfl), e15, show wa.eval (.tmp 16) = _ from hT 16 (by kernel_rfl)] at he
      subst he
      have HCE := Lib.hid hcE
      have HSV := Lib.hid (hsv.trans hSv)
      clear hT hsame hall hcE hSv hsv AX hPL e15
      go_wp2_with fail
      go_roundw
      case rel => exact ⟨k + 1, by omega, by go_num, HCE.out, HSV.out⟩
      case measure => simp [intOf]; omega
    · have hk2 : k = 8 := by omega
      have d1 : decide ((k : Int) < 8) = false := by simp; omega
      obtain ⟨E, hE⟩ : ∃ E, Hid (E = ((printB s).map vb).toArray) := ⟨_, rfl⟩
      have hpl : (printB s).length = 32 := prB_length s.l 8 (Nat.le_refl 8)
      have HE1 : Hid (E.size = 32) := by rw [Hid, hE.out]; simp [hpl]
      have HEO : Hid (E.all (·.oneCell') = true) := by rw [Hid, hE.out]; exact arrB_ok _
      have HA1 : Hid (wr.heap[w.heap.size + 2]? = some (.cells E 54 (0, 0))) := by
        rw [Hid, hE.out]; rw [hk2] at AX
        have e : prB s.l 8 = printB s := rfl
        rw [e, show 32 - 4 * 8 = 0 from rfl, List.replicate_zero, List.append_nil] at AX
        exact AX
      have HA6 : Hid (wr.heap[w.heap.size + 1]? = some (.cells Y 54 (0, 0))) := (hsv.block _ (by omega) (by omega)).trans HB1.out
      clear hk2 AX
      go_wp2_with (first
        | ((with_reducible refine wpList_loadB (o := ⟨some 18, .load _ _, _, _, _, _⟩) row_tag (.tmp 3) (by with_unfolding_all rfl) (by with_unfolding_all rfl) (by with_unfolding_all rfl) HA1.out HE1.out ?_))
        | ((with_reducible refine wpList_storeB (o := ⟨none, .store _ (.tmp 2) (.tmp 18), _, _, _, _⟩) row_tag (.tmp 2) (.tmp 18) (by with_unfolding_all rfl) (by with_unfolding_all rfl) (by with_unfolding_all rfl) (by with_unfolding_all rfl) (by with_unfolding_all rfl) HA6.out HY.out HE1.out HEO.out ?_); intro w4 hb4 hS4))
      refine bodyPost_ret (resB1 row_tag rfl rfl hb4 HE1.out) rfl ⟨by rw [hE.out], ?_⟩
      have h1 := B0.size
      have h2 := hsv.size
      exact B0.trans (((hsv.below (B := w.heap.size) (by omega) (fun j hj => by omega))).trans (hS4.below (by omega) (fun j hj => by omega)))
end Go.Proofs.YtofagofpeedfcaaGreat

/- sha.Tail: walked. -/
namespace Go.Proofs.YtofagofpeedfcaaGreat
open Go Go.RowKit Go.Cit

theorem holds_stay {w w' : World} {v : Value} {l : List UInt8} (h : Lib.HoldsBytes w v l) (hb : Below w.heap.size w w') : Lib.HoldsBytes w' v l := by
  obtain ⟨p, cap, e, h1, h2⟩ := h
  refine ⟨p, cap, e, h1, fun a ha j x hx => ?_⟩
  have hc := h2 a ha j x hx
  exact (hb.cell (World.block_lt_of_cell? w _ hc)).trans hc
theorem parts_stay {w w' : World} {p : Addr} {vs : List Value} {ls : List (List UInt8)} (h : Lib.PartsAt w p vs ls) (hb : Below w.heap.size w w') : Lib.PartsAt w' p vs ls := by
  obtain ⟨x, y, z⟩ := h
  exact ⟨x, fun i v hv => (hb.cell (World.block_lt_of_cell? w _ (y i v hv))).trans (y i v hv), fun i v l hv hl => holds_stay (z i v l hv hl) hb⟩

theorem gp_make {P : Program} {T E : TypeId} (hBT : ByteTypes P T E) {w : World} {o : Oper} {ρ : Operand → Value} {post : Value → World → Prop} (x y : Operand)
    (ho : o.op = .makeSlice T x y) (n : Nat) {k1 k2 : IntKind} (hx : ρ x = .int k1 (n : Int)) (hy : ρ y = .int k2 (n : Int)) (hn : n ≤ 1000000000)
    (h : ∀ w', Go.Cit.Own E w.heap.size w' (some ⟨w.heap.size, 0, none⟩) (List.replicate n 0) n → w.grownBy w' none → post (.slice (some ⟨w.heap.size, 0, none⟩) n n) w') : GivesP P post ((execOp ρ o).run P w) := by
  obtain ⟨i, hi, hz0, hz1, hz2⟩ := info_parts hBT.info
  obtain ⟨w', hr, hown, hgr⟩ := run_make_full (P := P) w w.heap.size T E i (.int .u8 0) 1 hBT.slice hi hz0 hz1 k1 k2 n (by rw [hz2]; omega) (by unfold maxLen; omega) (Nat.le_refl _)
  have e1 : (madeCells (Value.int .u8 0).cells (n * 1)).toList = (List.replicate n (0 : UInt8)).map vb := by
    rw [show (Value.int .u8 0).cells = #[.int .u8 0] from rfl, toList_madeCells_one, Nat.mul_one, List.map_replicate]; rfl
  rw [e1] at hown
  refine gp_run (w' := w') (v := .slice (some ⟨w.heap.size, 0, none⟩) n n) ?_ (h w' ⟨by simpa using hown⟩ hgr)
  unfold execOp
  rw [ho]
  dsimp only
  rw [hx, hy, Sem.run_bind, hr]
  rfl

def tailT (n z : Nat) : Nat → Value → World → Prop
  | 10, v, w => ∃ a c, v = .slice a 1 c ∧ Row w a [128] c
  | 11, v, _ => v = .int .i64 (z : Int)
  | 12, v, w => ∃ a c, v = .slice a z c ∧ Row w a (List.replicate z 0) c
  | 13, v, _ => v = .int .i64 (n : Int)
  | 14, v, _ => v = vq (qOfI n)
  | 15, v, _ => v = vq (qMul (qI 8) (qOfI n))
  | 16, v, w => ∃ a c, v = .slice a 8 c ∧ Row w a (rowB (qMul (qI 8) (qOfI n)) 8) c
  | 17, v, w => ∃ g vs, v = .slice (some ⟨g, 0, none⟩) 3 3 ∧ Lib.PartsAt w ⟨g, 0, none⟩ vs [[128], List.replicate z 0, rowB (qMul (qI 8) (qOfI n)) 8]
  | 18, v, w => ∃ a c, v = .slice a (z + 9) c ∧ Row w a (128 :: (List.replicate z 0 ++ rowB (qMul (qI 8) (qOfI n)) 8)) c
  | 2, v, w => ∃ a c, v = .slice a (z + 9) c ∧ Row w a (128 :: (List.replicate z 0 ++ rowB (qMul (qI 8) (qOfI n)) 8)) c
  | _, _, _ => True
theorem tailT_stay {n z d : Nat} {v : Value} {w w' : World} (hb : Below w.heap.size w w') (h : tailT n z d v w) : tailT n z d v w' := by
  unfold tailT at *
  split at h <;> first
    | exact h
    | (obtain ⟨a, c, e, hr⟩ := h; exact ⟨a, c, e, hr.stay hb⟩)
    | (obtain ⟨a, c, e, hr⟩ := h; exact ⟨a, c, e, parts_stay hr hb⟩)
    | simp_all
theorem build_parts {ρ : Operand → Value} {o : Oper} (x y z : Operand) (h : o.op = .buildSlice 105 3 #[(0, x), (1, y), (2, z)]) {a b c : Option Addr} {l m n p q r : Nat} (hx : ρ x = .slice a l p) (hy : ρ y = .slice b m q) (hz : ρ z = .slice c n r) (wx : World) :
    (execOp ρ o).run Tryz.prog wx = .ok (.value (.slice (some ⟨wx.heap.size, 0, none⟩) 3 3)) (wx.alloc (.cells #[.slice a l p, .slice b m q, .slice c n r] 31)) := by
  unfold execOp
  rw [h]
  dsimp only
  go_simp
theorem build_byte {ρ : Operand → Value} {o : Oper} (x : Operand) (h : o.op = .buildSlice 31 1 #[(0, x)]) {y : UInt8} (hx : ρ x = vb y) (wx : World) :
    (execOp ρ o).run Tryz.prog wx = .ok (.value (.slice (some ⟨wx.heap.size, 0, none⟩) 1 1)) (wx.alloc (.cells #[vb y] 5)) := by
  unfold execOp
  rw [h]
  dsimp only
  go_simp

set_option maxRecDepth 100000 in
set_option maxHeartbeats 4000000 in
theorem tail_calls (w : World) (n : Nat) (hn : n ≤ 1000000000) :
    Calls Tryz.prog 68 #[.int .i64 (n : Int)] w fun e w' => ∃ a c, e = .returned (.slice a (tailB n).length c) ∧ Row w' a (tailB n) c ∧ Below w.heap.size w w' := by
  obtain ⟨z, hz⟩ : ∃ z, Hid (z = (119 - n % 64) % 64) := ⟨_, rfl⟩
  have hz9 : z < 64 := by rw [hz.out]; omega
  have t1 : decide ((n : Int) < 0) = false := by simp
  have e1 : (n : Int).tmod 64 = ((n % 64 : Nat) : Int) := by rw [Int.tmod_eq_emod_of_nonneg (by omega)]; omega
  have e2 : IntKind.i64.wrap (119 - ((n % 64 : Nat) : Int)) = ((119 - n % 64 : Nat) : Int) := by rw [show (119 : Int) - ((n % 64 : Nat) : Int) = ((119 - n % 64 : Nat) : Int) by omega]; exact IntWalk.i64_in _ (by omega)
  go_enter Tryz.func68, Tryz.ntmps68
  go_wp2_with fail
  have hz3 : (119 - (n : Int) % 64) % 64 = (z : Int) := by rw [hz.out]; omega
  rw [hz3]
  have hlen : (tailB n).length = z + 9 := by unfold tailB; rw [← hz.out]; simp [rowB_length]
  have HL := Lib.hid hlen
  have HTB : Hid (128 :: (List.replicate z 0 ++ rowB (qMul (qI 8) (qOfI n)) 8) = tailB n) := by unfold tailB; rw [← hz.out]; rfl
  clear e1 e2 hz3 hlen
  refine wp_region_ph (fun _ wx => Below w.heap.size w wx) (fun _ wx w' => Below wx.heap.size wx w') (tailT n z) (by kernel_rfl) (by kernel_rfl) ?_ ?_ ?_ ?_
  · intro w' hb hh
    exact hb
  · intro δ i j o v w1 w2 _ _ _ _ _ _ hG h
    rcases hd : o.dst with _ | d
    · exact tyP_none hd _ _
    · rw [tyP_some hd] at h ⊢
      exact tailT_stay hG h
  · refine opsAll_cons ?_ (opsAll_cons ?_ (opsAll_cons ?_ (opsAll_cons ?_ (opsAll_cons ?_ (opsAll_cons ?_ (opsAll_cons ?_ (opsAll_cons ?_ (opsAll_cons ?_ (opsAll_cons ?_ opsAll_nil)))))))))
    all_goals intro δ wa wx hk
    · refine ⟨wanted_free rfl, gp_run (build_byte (.const (.int .u8 128)) rfl (y := 128) (hk.lit _) wx) ?_⟩
      have hb : Below wx.heap.size wx (wx.alloc (.cells #[vb 128] 5)) := (Below.refl _ wx).alloc (Nat.le_refl _) _
      exact ⟨hb, hk.inv.trans (hb.mono hk.inv.size), _, _, rfl, row_new wx _ _ _ [128] rfl (by decide)⟩
    · exact ⟨wanted_free rfl, gp_move (.tmp 3) rfl ⟨Below.refl _ _, hk.inv, hk.old 3 (by kernel_rfl)⟩⟩
    · refine ⟨wanted_free rfl, gp_make bt (.tmp 11) (.tmp 11) rfl z (hk.slot 11 (by kernel_rfl)) (hk.slot 11 (by kernel_rfl)) (by omega) ?_⟩
      intro w' ho hg
      have hb : Below wx.heap.size wx w' := ⟨hg.os, hg.tape, hg.output, hg.size, fun k hk => hg.block k hk (by simp)⟩
      have hr := ho.isRow
      exact ⟨hb, hk.inv.trans (hb.mono hk.inv.size), _, _, rfl, hr⟩
    · exact ⟨wanted_free rfl, gp_move (.tmp 0) rfl ⟨Below.refl _ _, hk.inv, hk.old 0 (by kernel_rfl)⟩⟩
    · refine ⟨wanted_free rfl, ?_⟩
      have e13 : wa.eval (.tmp 13) = _ := hk.slot 13 (by kernel_rfl)
      refine gp_run (v := vq (qOfI n)) (w' := wx) ?_ ⟨Below.refl _ _, hk.inv, rfl⟩
      unfold execOp
      dsimp only
      rw [e13]
      go_simp
      rw [wrap_u64_eq, qOfI_nat]
    · refine ⟨wanted_free rfl, gp_bin rfl (hk.lit _) (hk.slot 14 (by kernel_rfl)) (v := vq (qMul (qI 8) (qOfI n))) (fun w => ?_) ⟨Below.refl _ _, hk.inv, rfl⟩⟩
      go_simp
    · refine ⟨wanted_free rfl, gp_call rfl (hk.fn _) #[vq (qMul (qI 8) (qOfI n))] (fun w => by kernel_rfl) (by simp [show wa.eval (.tmp 15) = _ from hk.slot 15 (by kernel_rfl)]) ((put64_calls wx _).mono ?_)⟩
      rintro e w' ⟨a, c, rfl, ho, hb⟩
      exact ⟨_, rfl, hb, hk.inv.trans (hb.mono hk.inv.size), a, c, rfl, ho.isRow⟩
    · obtain ⟨a1, c1, e1, r1⟩ := hk.slot 10 (by kernel_rfl)
      obtain ⟨a2, c2, e2, r2⟩ := hk.slot 12 (by kernel_rfl)
      obtain ⟨a3, c3, e3, r3⟩ := hk.slot 16 (by kernel_rfl)
      refine ⟨wanted_free rfl, gp_run (build_parts (.tmp 10) (.tmp 12) (.tmp 16) rfl e1 e2 e3 wx) ?_⟩
      have hb : Below wx.heap.size wx (wx.alloc (.cells #[.slice a1 1 c1, .slice a2 z c2, .slice a3 8 c3] 31)) := (Below.refl _ wx).alloc (Nat.le_refl _) _
      refine ⟨hb, hk.inv.trans (hb.mono hk.inv.size), wx.heap.size, [.slice a1 1 c1, .slice a2 z c2, .slice a3 8 c3], rfl, ?_⟩
      refine parts_new wx _ _ _ rfl (fun i v l hv hl => ?_)
      match i with
      | 0 => simp at hv hl; subst hv hl; exact holds_of_row (l := [128]) r1
      | 1 => simp at hv hl; subst hv hl; have := holds_of_row r2; rwa [List.length_replicate] at this
      | 2 => simp at hv hl; subst hv hl; have := holds_of_row r3; rwa [rowB_length] at this
      | i + 3 => simp at hv
    · obtain ⟨g, vs, e17, hp⟩ := hk.slot 17 (by kernel_rfl)
      have hc := cat_calls wx g 0 3 vs _ hp (by simp) (by simp [rowB_length]; omega) (by simp)
      have hfl : ([[128], List.replicate z 0, rowB (qMul (qI 8) (qOfI n)) 8] : List (List UInt8)).flatten = 128 :: (List.replicate z 0 ++ rowB (qMul (qI 8) (qOfI n)) 8) := by simp
      rw [hfl] at hc
      have hl9 : (128 :: (List.replicate z 0 ++ rowB (qMul (qI 8) (qOfI n)) 8) : List UInt8).length = z + 9 := by simp [rowB_length]
      rw [hl9] at hc
      refine ⟨wanted_free rfl, gp_call rfl (hk.fn _) #[.slice (some ⟨g, 0, none⟩) 3 3] (fun w => by kernel_rfl) (by simp [e17]) (hc.mono ?_)⟩
      rintro e w' ⟨a, c, rfl, hm, hb⟩
      exact ⟨_, rfl, hb, hk.inv.trans (hb.mono hk.inv.size), a, c, rfl, hm.row⟩
    · exact ⟨wanted_free rfl, gp_assign (.tmp 18) rfl ⟨Below.refl _ _, hk.inv, hk.slot 18 (by kernel_rfl)⟩⟩
  intro δ wa wx hall hC hsame hT
  obtain ⟨a, c, e2, hr⟩ := hT 2 (by kernel_rfl)
  have hd := hsame.1
  rename_i hK
  refine hK wa wx ?_
  apply wp_ret
  refine bodyPost_ret (results_tmp rfl _ _ _) hd ⟨a, c, ?_, by rw [← HTB.out]; exact hr, hC⟩
  show Ending.returned (wa.eval (.tmp 2)) = _
  rw [e2, HL.out]
end Go.Proofs.YtofagofpeedfcaaGreat

/- sha.Sum: walked. -/
namespace Go.Proofs.YtofagofpeedfcaaGreat
open Go Go.RowKit Go.Cit

theorem eatAll_next (K : List UInt32) : ∀ (k : Nat) (s : S8) (b : List UInt8), eatAll K (k + 1) s b = (eatAll K k s b).eat K ((b.drop (64 * k)).take 64)
  | 0, s, b => rfl
  | k + 1, s, b => by
    rw [eatAll, eatAll_next K k, eatAll, List.drop_drop]
    congr 3
    omega
theorem tail_whole (n : Nat) : (n + (tailB n).length) % 64 = 0 := by
  unfold tailB
  simp [rowB_length]
  omega

/-- The pieces of 64 bytes that a whole number of blocks has. -/
theorem sum_pieces {M : List UInt8} {n : Nat} (hn : M.length = 64 * n) {ds : List (Sl UInt8)} (hds : ds.map (·.l) = cutL 64 M) : ds.length = n ∧ Hid (∀ k (h : k < ds.length), ds[k].l = (M.drop (64 * k)).take 64) := by
  have hdl : ds.length = n := by
    have := congrArg List.length hds
    rw [List.length_map, cutL, List.length_map, List.length_range, cutN, hn] at this
    omega
  refine ⟨hdl, fun k h => ?_⟩
  have h1 : (ds.map (·.l))[k]? = some (pieceL 64 M k) := by
    rw [hds, cutL, List.getElem?_map, List.getElem?_range (by unfold cutN; omega)]; rfl
  rw [List.getElem?_map, List.getElem?_eq_getElem h] at h1
  have h2 : ds[k].l = pieceL 64 M k := Option.some.inj h1
  rw [h2, pieceL, Nat.mul_comm]

set_option maxRecDepth 100000 in
set_option maxHeartbeats 4000000 in
theorem sum_calls (w : World) (a : Option Addr) (b : List UInt8) (c : Nat) (hr : Row w a b c) (hb : b.length ≤ 10000000) :
    Calls Tryz.prog 43 #[.slice a b.length c] w fun e w' => e = .returned (.agg ((sumB b).map vb).toArray) ∧ Below w.heap.size w w' := by
  have HA1 := Lib.hid (fun ρ d ty ps af w => alloc_state ρ d ty ps (af := af) w)
  have HA2 := Lib.hid (fun ρ d ty ps af w => alloc_w64 ρ d ty ps (af := af) w)
  have HA3 := Lib.hid (fun ρ d ty ps af w => alloc_tag ρ d ty ps (af := af) w)
  obtain ⟨Y, hY⟩ : ∃ Y, Hid (Y = ((List.replicate 8 (0 : UInt32)).map vw).toArray) := ⟨_, rfl⟩
  obtain ⟨Z, hZ⟩ : ∃ Y, Hid (Y = ((List.replicate 64 (0 : UInt32)).map vw).toArray) := ⟨_, rfl⟩
  obtain ⟨X, hX⟩ : ∃ Y, Hid (Y = ((List.replicate 32 (0 : UInt8)).map vb).toArray) := ⟨_, rfl⟩
  obtain ⟨S, hS⟩ : ∃ S, Hid (S = (first8.l.map vw).toArray) := ⟨_, rfl⟩
  obtain ⟨K, hK⟩ : ∃ S, Hid (S = (kTab.map vw).toArray) := ⟨_, rfl⟩
  rw [← hY.out] at HA1
  rw [← hZ.out] at HA2
  rw [← hX.out] at HA3
  have HY : Hid (Y.size = 8) := by rw [Hid, hY.out]; simp
  have HZ : Hid (Z.size = 64) := by rw [Hid, hZ.out]; simp
  have HX : Hid (X.size = 32) := by rw [Hid, hX.out]; simp
  have HSs : Hid (S.size = 8) := by rw [Hid, hS.out]; simp [S8.l]
  have HKs : Hid (K.size = 64) := by rw [Hid, hK.out]; simp [kTab]
  have HSo : Hid (S.all (·.oneCell') = true) := by rw [Hid, hS.out]; exact arr_ok _
  have HKo : Hid (K.all (·.oneCell') = true) := by rw [Hid, hK.out]; exact arr_ok _
  have HFC := Lib.hid (First_calls)
  have HCC := Lib.hid (constants_calls)
  rw [← hS.out] at HFC
  rw [← hK.out] at HCC
  go_enter Tryz.func43, Tryz.ntmps43
  go_wp2_with (first
    | ((with_reducible refine wpList_value (o := ⟨some 2, .alloc _, _, _, _, _⟩) (by with_unfolding_all rfl) (HA3.out _ _ _ _ _ _) ?_)))
  refine (HFC.out _).mono ?_
  rintro e w1 ⟨rfl, hb1⟩
  go_wp2_with fail
  refine (HCC.out _).mono ?_
  rintro e w2 ⟨rfl, hb2⟩
  have hX2 : w2.heap[w.heap.size]? = some (.cells X 54 (0, 0)) :=
    (hb2.block _ (by have := hb1.size; simp at this; omega)).trans ((hb1.block _ (by simp)).trans (heap_alloc_new w _))
  have B2 : Below w.heap.size w w2 := ((Below.refl _ w).alloc (Nat.le_refl _) _).trans ((hb1.mono (by simp)).trans (hb2.mono (by have := hb1.size; simp at this; omega)))
  have hlt2 : w.heap.size < w2.heap.size := by have := hb1.size; have := hb2.size; simp at *; omega
  clear hb1 hb2
  have c3 : ((w2.alloc (.cells Y 101)).alloc (.cells Z 103)).heap[w2.heap.size]? = some (.cells Y 101 (0, 0)) := (Below.heap_alloc _ _ _ (by simp)).trans (heap_alloc_new w2 _)
  have c4 : ((w2.alloc (.cells Y 101)).alloc (.cells Z 103)).heap[w2.heap.size + 1]? = some (.cells Z 103 (0, 0)) := by
    have := heap_alloc_new (w2.alloc (.cells Y 101)) (.cells Z 103)
    rwa [World.size_alloc] at this
  have hs2 : Save (fun _ => True) w2 ((w2.alloc (.cells Y 101)).alloc (.cells Z 103)) := (Save.alloc _ _).trans (Save.of (((Below.refl _ _).alloc (Nat.le_refl _) _)))
  have C3 := Lib.hid c3
  have C4 := Lib.hid c4
  have CS := Lib.hid hs2
  clear c3 c4 hs2
  have hsz4 : (w2.alloc (.cells Y 101)).heap.size = w2.heap.size + 1 := by simp
  have hsz5 : ((w2.alloc (.cells Y 101)).alloc (.cells Z 103)).heap.size = w2.heap.size + 2 := by simp
  have HS4 := Lib.hid hsz4
  have HS5 := Lib.hid hsz5
  clear hsz4 hsz5
  go_wp2_with (first
    | ((with_reducible refine wpList_value (o := ⟨some 3, .alloc _, _, _, _, _⟩) (by with_unfolding_all rfl) (HA1.out _ _ _ _ _ _) ?_))
    | ((with_reducible refine wpList_value (o := ⟨some 4, .alloc _, _, _, _, _⟩) (by with_unfolding_all rfl) (HA2.out _ _ _ _ _ _) ?_))
    | ((with_reducible refine wpList_storeB (o := ⟨none, .store _ (.tmp 3) (.tmp 7), _, _, _, _⟩) row_state (.tmp 3) (.tmp 7) (by with_unfolding_all rfl) (by with_unfolding_all rfl) (by with_unfolding_all rfl) (by with_unfolding_all rfl) (by with_unfolding_all rfl) C3.out HY.out HSs.out HSo.out ?_); intro w3 hb3 hS3; have c4' : Hid (w3.heap[(w2.alloc (.cells Y 101)).heap.size]? = some (.cells Z 103 (0, 0))) := HS4.out ▸ ((hS3.block (w2.heap.size + 1) (by have h5 := HS5.out; omega) (by show w2.heap.size + 1 ≠ w2.heap.size; omega)).trans C4.out))
    | ((with_reducible refine wpList_storeB (o := ⟨none, .store _ (.tmp 4) (.tmp 8), _, _, _, _⟩) row_w64 (.tmp 4) (.tmp 8) (by with_unfolding_all rfl) (by with_unfolding_all rfl) (by with_unfolding_all rfl) (by with_unfolding_all rfl) (by with_unfolding_all rfl) c4'.out HZ.out HKs.out HKo.out ?_); intro w4 hb4 hS4))
  rw [HS4.out] at hb4 hS4
  have hlt4 : w2.heap.size + 2 ≤ w4.heap.size := by have := hS3.size; have := hS4.size; have := HS5.out; omega
  have hb3' := (hS4.block w2.heap.size (by have := hS3.size; have := HS5.out; omega) (by omega)).trans hb3
  have B4 : Below w.heap.size w w4 := by
    refine B2.trans (((CS.out.below (B := w.heap.size) (by omega) (fun _ _ => trivial)).trans (hS3.below (by have := HS5.out; omega) (fun j hj => by omega))).trans (hS4.below (by have := hS3.size; have := HS5.out; omega) (fun j hj => by omega)))
  have hX4 : Hid (w4.heap[w.heap.size]? = some (.cells X 54 (0, 0))) :=
    (hS4.block _ (by have := hS3.size; have := HS5.out; omega) (by omega)).trans ((hS3.block _ (by have := HS5.out; omega) (by omega)).trans ((CS.out.block _ (by omega) trivial).trans hX2))
  have A3 : Hid (Arr 101 w4 w2.heap.size first8.l) := by have := hb3'; rw [hS.out] at this; exact this
  have A4 : Hid (Arr 103 w4 (w2.heap.size + 1) kTab) := by have := hb4; rw [hK.out] at this; exact this
  have HR4 := Lib.hid (hr.stay B4)
  have HBL := Lib.hid hb
  clear hb3 hb3' hb4 hS3 hS4 c4' C3 C4 CS HS4 HS5 hX2 B2 hr
  obtain ⟨n2, hn2⟩ : ∃ n, n = w2.heap.size := ⟨_, rfl⟩
  rw [← hn2] at A3 A4 hlt4 hlt2 ⊢
  clear hn2
  refine (tail_calls w4 b.length (by omega)).mono ?_
  rintro e w5 ⟨a5, c5, rfl, hr5, hb5⟩
  go_wp2_with fail
  have hr0 : Row w5 a b c := HR4.out.stay hb5
  have htl : (tailB b.length).length ≤ 100 := by unfold tailB; simp [rowB_length]; omega
  refine (cat2_calls w5 _ hr0 hr5 (by omega) (by omega)).mono ?_
  rintro e w6 ⟨a6, c6, rfl, hm6, hb6⟩
  have hW := tail_whole b.length
  obtain ⟨M, hM⟩ : ∃ M, Hid (M = b ++ tailB b.length) := ⟨_, rfl⟩
  rw [← hM.out] at hm6 ⊢
  obtain ⟨n, hn⟩ : ∃ n, M.length = 64 * n := ⟨M.length / 64, by rw [hM.out, List.length_append]; omega⟩
  have HN : Hid (n = (b.length + (tailB b.length).length) / 64) := by rw [Hid, ← List.length_append, ← hM.out, hn]; omega
  have hML : M.length ≤ 20000000 := by rw [hM.out, List.length_append]; omega
  have h46 : Below w4.heap.size w4 w6 := hb5.trans (hb6.mono hb5.size)
  have HMN := Lib.hid hn
  clear hr0 hr5 hb5 hb6 htl hW hn
  go_wp2_with fail
  refine (cut_own w6 a6 M c6 64 hm6.row (by decide) (by decide) (by omega)).mono ?_
  rintro e w7 ⟨a7, ds, c7, rfl, hds, hR, hNw, hb7⟩
  have h47 : Below w4.heap.size w4 w7 := h46.trans (hb7.mono h46.size)
  obtain ⟨hdl, HD⟩ := sum_pieces HMN.out hds
  have HNW : Hid ((∀ g, Go.Cit.blk a7 = some g → w4.heap.size ≤ g) ∧ ∀ d ∈ ds, ∀ g, Go.Cit.blk d.a = some g → w4.heap.size ≤ g) := ⟨fun g h => Nat.le_trans h46.size (hNw.1 g h), fun d hd g h => Nat.le_trans h46.size (hNw.2 d hd g h)⟩
  have HDL := Lib.hid hdl
  have A7 := A3.out.stay h47
  clear hds hNw hb7 h46 hm6 hdl
  go_wp2_with fail
  have hnb : n ≤ 20000000 := by have := HMN.out; omega
  go_loopw [17] (fun i wr => ∃ (k : Nat), k ≤ n ∧ i = .int .i64 k ∧ Arr 101 wr n2 (eatAll kTab k first8 M).l ∧ Save (· ≠ n2) w7 wr) (fun i _ => n - (intOf i).toNat)
  case atStart => exact ⟨0, Nat.zero_le _, rfl, A7, Save.refl _ _⟩
  case round =>
    clear A7
    obtain ⟨k, hk, rfl, AX, hsv⟩ := hrel
    have hRr := hR.save hsv (fun g hg => by have := HNW.out.1 g hg; omega) (fun d hd g hg => by have := HNW.out.2 d hd g hg; omega)
    by_cases hlt : k < n
    · have hkd : k < ds.length := by rw [HDL.out]; exact hlt
      have d1 : decide (k < ds.length) = true := by simp; omega
      have i0 := hRr.index k hkd
      have e0 := hRr.cell k hkd
      have hrow := hRr.row ds[k] (List.getElem_mem hkd)
      have hpl := HD.out k hkd
      generalize ds[k] = d at e0 hrow hpl
      have hp64 : d.l.length = 64 := by rw [hpl, List.length_take, List.length_drop, HMN.out]; omega
      rw [hp64] at e0
      have A4w : Hid (wr.heap[n2 + 1]? = some (.cells (kTab.map vw).toArray 103 (0, 0))) := (A4.out.stay h47).save hsv (by omega)
      have hek := eat_calls wr (eatAll kTab k first8 M) d.a d.l d.c kTab hrow hp64 (by decide)
      rw [hpl, ← eatAll_next] at hek
      have hSz : Hid (((eatAll kTab k first8 M).l.map vw).toArray.size = 8) := by simp [Hid, S8.l]
      have hSz' : Hid (((eatAll kTab (k + 1) first8 M).l.map vw).toArray.size = 8) := by simp [Hid, S8.l]
      have hKz : Hid ((kTab.map vw).toArray.size = 64) := by simp [Hid, kTab]
      have hSo : Hid (((eatAll kTab (k + 1) first8 M).l.map vw).toArray.all (·.oneCell') = true) := by rw [Hid]; exact arr_ok _
      have HEK := Lib.hid hek
      have HAX : Hid (wr.heap[n2]? = some (.cells ((eatAll kTab k first8 M).l.map vw).toArray 101 (0, 0))) := AX
      have HSV := Lib.hid hsv
      clear hek AX hsv hp64 hpl hRr hrow
      go_wp2_with (first
        | ((with_reducible refine wpList_loadB (o := ⟨some 21, .load _ _, _, _, _, _⟩) row_state (.tmp 3) (by with_unfolding_all rfl) (by with_unfolding_all rfl) (by with_unfolding_all rfl) HAX.out hSz.out ?_))
        | ((with_reducible refine wpList_loadB (o := ⟨some 23, .load _ _, _, _, _, _⟩) row_w64 (.tmp 4) (by with_unfolding_all rfl) (by with_unfolding_all rfl) (by with_unfolding_all rfl) A4w.out hKz.out ?_)))
      refine HEK.out.mono ?_
      rintro e wr' ⟨rfl, hbr⟩
      have HBX := Lib.hid hbr
      have HAX' : Hid (wr'.heap[n2]? = some (.cells ((eatAll kTab k first8 M).l.map vw).toArray 101 (0, 0))) := (hbr.block n2 (Array.getElem?_eq_some_iff.1 HAX.out).1).trans HAX.out
      clear hbr
      go_wp2_with (first
        | ((with_reducible refine wpList_storeB (o := ⟨none, .store _ (.tmp 3) (.tmp 24), _, _, _, _⟩) row_state (.tmp 3) (.tmp 24) (by with_unfolding_all rfl) (by with_unfolding_all rfl) (by with_unfolding_all rfl) (by with_unfolding_all rfl) (by with_unfolding_all rfl) HAX'.out hSz.out hSz'.out hSo.out ?_); intro wq hbq hsq; have HBQ := Lib.hid hbq; have HSQ := Lib.hid hsq; clear hbq hsq))
      go_roundw
      case rel => exact ⟨k + 1, by omega, by go_num, HBQ.out, HSV.out.trans ((Save.of HBX.out).trans HSQ.out)⟩
      case measure => simp [intOf]; omega
    · have d1 : decide (k < ds.length) = false := by have := HDL.out; simp; omega
      obtain rfl : k = n := by omega
      have HAX : Hid (wr.heap[n2]? = some (.cells ((eatAll kTab k first8 M).l.map vw).toArray 101 (0, 0))) := AX
      have hSz : Hid (((eatAll kTab k first8 M).l.map vw).toArray.size = 8) := by simp [Hid, S8.l]
      have HSV := Lib.hid hsv
      have HX7 : Hid (wr.heap[w.heap.size]? = some (.cells X 54 (0, 0))) := (hsv.block _ (by have := h47.size; omega) (by omega)).trans ((h47.block _ (by omega)).trans hX4.out)
      have hbm : sumB b = printB (eatAll kTab k first8 M) := by unfold sumB; rw [HN.out, hM.out]
      have HBM := Lib.hid hbm
      have HPC := Lib.hid (print_calls wr (eatAll kTab k first8 M))
      clear hbm AX hsv hRr
      go_wp2_with (first
        | ((with_reducible refine wpList_loadB (o := ⟨some 26, .load _ _, _, _, _, _⟩) row_state (.tmp 3) (by with_unfolding_all rfl) (by with_unfolding_all rfl) (by with_unfolding_all rfl) HAX.out hSz.out ?_)))
      refine HPC.out.mono ?_
      rintro e wz ⟨rfl, hbz⟩
      have HX8 : Hid (wz.heap[w.heap.size]? = some (.cells X 54 (0, 0))) := (hbz.block _ (Array.getElem?_eq_some_iff.1 HX7.out).1).trans HX7.out
      have HBZ := Lib.hid hbz
      obtain ⟨R, hR0⟩ : ∃ R, Hid (R = ((printB (eatAll kTab k first8 M)).map vb).toArray) := ⟨_, rfl⟩
      rw [← hR0.out]
      have HRs : Hid (R.size = 32) := by rw [Hid, hR0.out]; simp [printB, S8.l, rowB_length]
      have HRo : Hid (R.all (·.oneCell') = true) := by rw [Hid, hR0.out]; exact arrB_ok _
      clear hbz
      go_wp2_with (first
        | ((with_reducible refine wpList_storeB (o := ⟨none, .store _ (.tmp 2) (.tmp 27), _, _, _, _⟩) row_tag (.tmp 2) (.tmp 27) (by with_unfolding_all rfl) (by with_unfolding_all rfl) (by with_unfolding_all rfl) (by with_unfolding_all rfl) (by with_unfolding_all rfl) HX8.out HX.out HRs.out HRo.out ?_); intro wq hbq hsq; have HBQ := Lib.hid hbq; have HSQ := Lib.hid hsq; clear hbq hsq))
      refine bodyPost_ret (resB1 row_tag rfl rfl HBQ.out HRs.out) rfl ⟨?_, ?_⟩
      · rw [HBM.out, hR0.out]
      · have h7 := (h47.mono (Nat.le_of_lt (Nat.lt_of_lt_of_le (Nat.lt_succ_of_lt hlt2) (Nat.le_of_succ_le hlt4)))).trans (HSV.out.below (by have := h47.size; omega) (fun j hj => by omega))
        have h8 : Below w.heap.size w wr := B4.trans (h7.mono (by omega))
        exact h8.trans ((HBZ.out.mono h8.size).trans (HSQ.out.below (by have := h8.size; have := HBZ.out.size; omega) (fun j hj => by omega)))
end Go.Proofs.YtofagofpeedfcaaGreat

/- Slices of any elements (each n cells): read, owned, made, appended to. No condition. -/
namespace Go.Cit
open Go Go.RowKit

/-- A slice type T, its element type E: n cells, by bytes, z the zero value. -/
structure ElemType (P : Program) (T E : TypeId) (n by_ : Nat) (z : Value) : Prop where
  slice : P.underlying T = some (.slice E)
  info : (P.info? E).map (fun i => (i.zero, i.size, i.bytes)) = some (some z, n, by_)
  sz : ∀ w, (sizeOf E).run P w = .ok n w
  zs : z.cells.size = n
  pos : 0 < n
  few : by_ ≤ 10000

/-- The slice (a, l.length, cap) reads as l in w: element x as the n cells f x. -/
structure Vec {α : Type} (f : α → List Value) (n : Nat) (w : World) (a : Option Addr) (l : List α) (cap : Nat) : Prop where
  le : l.length ≤ cap
  top : cap ≤ maxLen
  nil : a = none → cap = 0
  spot : l ≠ [] → ∃ b off, a = some ⟨b, off, none⟩
  cell : ∀ i (h : i < l.length) j, j < n → w.cell? (ad a (i * n + j)) = (f l[i])[j]?
/-- It is the call's own, from block B on. -/
structure VOwn {α : Type} (f : α → List Value) (n : Nat) (E : TypeId) (B : Nat) (w : World) (a : Option Addr) (l : List α) (cap : Nat) : Prop where
  row : w.ownsRow B E n (.slice a l.length cap) l.length (l.flatMap f)

section
variable {α : Type} {f : α → List Value} {n : Nat}
theorem Vec.nil_ (w : World) : Vec f n w none [] 0 := ⟨Nat.le_refl _, Nat.zero_le _, fun _ => rfl, fun h => (h rfl).elim, fun i h => by simp at h⟩
theorem Vec.len_le {w a cap} {l : List α} (h : Vec f n w a l cap) : l.length ≤ 9223372036854775807 := by
  have h1 := h.le; have h2 := h.top; unfold maxLen at h2; omega
theorem Vec.lt {w a cap} {l : List α} (h : Vec f n w a l cap) (hf : ∀ x, (f x).length = n) {i j : Nat} (hi : i < l.length) (hj : j < n) : (ad a (i * n + j)).block < w.heap.size := by
  have := h.cell i hi j hj
  have hj' : j < (f l[i]).length := by rw [hf]; exact hj
  rw [List.getElem?_eq_getElem hj'] at this
  exact World.block_lt_of_cell? w _ this
theorem Vec.stay {w w' : World} {a cap} {l : List α} (h : Vec f n w a l cap) (hf : ∀ x, (f x).length = n) (hb : Below w.heap.size w w') : Vec f n w' a l cap :=
  ⟨h.le, h.top, h.nil, h.spot, fun i hi j hj => (hb.cell (h.lt hf hi hj)).trans (h.cell i hi j hj)⟩
theorem Vec.drewN {w : World} {a cap} {l : List α} (h : Vec f n w a l cap) (k : Nat) : Vec f n (w.drewN k) a l cap := ⟨h.le, h.top, h.nil, h.spot, h.cell⟩
theorem Vec.save {S : Nat → Prop} {w w' : World} {a cap} {l : List α} (h : Vec f n w a l cap) (hf : ∀ x, (f x).length = n) (hs : Save S w w') (ha : l ≠ [] → ∀ g, blk a = some g → S g) : Vec f n w' a l cap := by
  refine ⟨h.le, h.top, h.nil, h.spot, fun i hi j hj => ?_⟩
  have hne : l ≠ [] := by intro h0; simp [h0] at hi
  obtain ⟨g, off, rfl⟩ := h.spot hne
  exact (hs.cell (h.lt hf hi hj) (ha hne g rfl)).trans (h.cell i hi j hj)
/-- Elements of one cell. -/
theorem Vec.cell1 {v : α → Value} {w a cap} {l : List α} (h : Vec (fun x => [v x]) 1 w a l cap) (i : Nat) (hi : i < l.length) : w.cell? (ad a i) = some (v l[i]) := by
  have := h.cell i hi 0 (by decide)
  simpa using this
theorem Vec.of1 {v : α → Value} {w a cap} {l : List α} (h1 : l.length ≤ cap) (h2 : cap ≤ maxLen) (h3 : a = none → cap = 0) (h4 : l ≠ [] → ∃ b off, a = some ⟨b, off, none⟩) (h5 : ∀ i (h : i < l.length), w.cell? (ad a i) = some (v l[i])) : Vec (fun x => [v x]) 1 w a l cap :=
  ⟨h1, h2, h3, h4, fun i hi j hj => by obtain rfl : j = 0 := by omega
                                       rw [Nat.mul_one, Nat.add_zero, h5 i hi]; rfl⟩

theorem flatGet {β : Type} {f : α → List β} (hf : ∀ x, (f x).length = n) : ∀ (l : List α) (i j : Nat) (h : i < l.length), j < n → (l.flatMap f)[i * n + j]? = (f l[i])[j]?
  | [], i, j, h, _ => by simp at h
  | x :: l, 0, j, _, hj => by
    rw [List.flatMap_cons, List.getElem?_append_left (by rw [hf]; omega)]
    simp
  | x :: l, i + 1, j, h, hj => by
    have e : (i + 1) * n + j - n = i * n + j := by rw [Nat.succ_mul]; omega
    rw [List.flatMap_cons, List.getElem?_append_right (by rw [hf, Nat.succ_mul]; omega), hf, e]
    exact flatGet hf l i j (by simpa using h) hj
theorem flatLen {β : Type} {f : α → List β} (hf : ∀ x, (f x).length = n) (l : List α) : (l.flatMap f).length = l.length * n := by
  induction l with
  | nil => simp
  | cons x l ih => rw [List.flatMap_cons, List.length_append, hf, ih, List.length_cons, Nat.succ_mul]; omega
theorem add_ad (g off j : Nat) : (⟨g, off, none⟩ : Addr).add j = ad (some ⟨g, off, none⟩) j := by unfold Addr.add ad; split <;> simp_all
theorem ad_some (g i : Nat) : ad (some ⟨g, 0, none⟩) i = ⟨g, i, none⟩ := by simp [ad]

theorem VOwn.vec {E B w a cap} {l : List α} (h : VOwn f n E B w a l cap) (hf : ∀ x, (f x).length = n) : Vec f n w a l cap := by
  rcases h.row.2 with ⟨hv, hn⟩ | ⟨g, c, cur, hv, hb, hg, hle, hm, hc, ht⟩
  · injection hv with h1 h2 h3
    obtain rfl : l = [] := List.eq_nil_of_length_eq_zero hn
    subst h1 h3
    exact Vec.nil_ w
  · have hcells := h.row.cells (g := g) (by injection hv with h1; rw [h1]; rfl)
    injection hv with h1 h2 h3
    subst h1 h3
    refine ⟨hle, hm, fun h0 => by simp at h0, fun _ => ⟨g, 0, rfl⟩, fun i hi j hj => ?_⟩
    have hj' : j < (f l[i]).length := by rw [hf]; exact hj
    have e := flatGet hf l i j hi hj
    rw [List.getElem?_eq_getElem hj'] at e ⊢
    have := hcells (i * n + j) _ e
    have ea : (⟨g, 0, none⟩ : Addr).add (i * n + j) = ad (some ⟨g, 0, none⟩) (i * n + j) := by unfold Addr.add ad; split <;> simp_all
    rwa [ea] at this
theorem VOwn.blk_ge {E B w a cap} {l : List α} (h : VOwn f n E B w a l cap) {g : Nat} (hg : blk a = some g) : B ≤ g ∧ g < w.heap.size := by
  cases a with
  | none => simp [blk] at hg
  | some x => exact h.row.lt g (by simpa [Value.ownBlock, blk] using hg)
theorem VOwn.save {S : Nat → Prop} {E B} {w w' : World} {a cap} {l : List α} (r : VOwn f n E B w a l cap) (h : Save S w w') (hs : ∀ g, blk a = some g → S g) : VOwn f n E B w' a l cap := by
  refine ⟨r.row.1, ?_⟩
  rcases r.row.2 with hn | ⟨g, c, cur, hv, hbg, hg, rest⟩
  · exact .inl hn
  · injection hv with h1 h2 h3
    subst h1
    refine .inr ⟨g, c, cur, by rw [h2, h3], hbg, ?_, rest⟩
    rw [h.block g (Array.getElem?_eq_some_iff.1 hg).1 (hs g rfl)]; exact hg
theorem VOwn.alloc {E B w a cap} {l : List α} (h : VOwn f n E B w a l cap) (o : Obj) : VOwn f n E B (w.alloc o) a l cap := ⟨h.row.alloc o⟩
theorem VOwn.low {E B B' w a cap} {l : List α} (h : VOwn f n E B w a l cap) (hB : B' ≤ B) : VOwn f n E B' w a l cap := by
  refine ⟨h.row.1, ?_⟩
  rcases h.row.2 with hn | ⟨g, c, cur, hv, hbg, rest⟩
  · exact .inl hn
  · exact .inr ⟨g, c, cur, hv, Nat.le_trans hB hbg, rest⟩
theorem VOwn.nil_ (f : α → List Value) (n : Nat) (E B : Nat) (w : World) : VOwn f n E B w none [] 0 := ⟨World.ownsRow_nil w B E n⟩
theorem VOwn.stay {E B} {w w' : World} {a cap} {l : List α} (r : VOwn f n E B w a l cap) (h : Below w.heap.size w w') : VOwn f n E B w' a l cap := r.save (Save.of (S := fun _ => True) h) (fun _ _ => trivial)
end

section
variable {P : Program} {T E : TypeId} {n by_ : Nat} {z : Value} {α : Type} {f : α → List Value}
theorem Vec.index (hE : ElemType P T E n by_ z) {w a cap} {l : List α} (h : Vec f n w a l cap) (i : Nat) (hi : i < l.length) :
    ∀ w, (Instr.indexAt T (.slice a l.length cap) (.int .i64 (i : Int))).run P w = .ok (.pointer (some (ad a (i * n)))) w := by
  intro w
  have hT := hE.slice
  obtain ⟨b, off, rfl⟩ := h.spot (by intro h0; simp [h0] at hi)
  have he : P.elem T = E := by simp [Program.elem, hT]
  rw [run_indexAt_slice w T _ _ _ _ _ (by rw [he]; exact hT), if_pos (by omega), he, hE.sz]
  simp only [Result.andThen, ad, Addr.add]
  by_cases h0 : i * n = 0
  · simp [h0]
  · simp [h0]
theorem Vec.index1 {v : α → Value} (hE : ElemType P T E 1 by_ z) {w a cap} {l : List α} (h : Vec (fun x => [v x]) 1 w a l cap) (i : Nat) (hi : i < l.length) :
    ∀ w, (Instr.indexAt T (.slice a l.length cap) (.int .i64 (i : Int))).run P w = .ok (.pointer (some (ad a i))) w := by
  have := h.index hE i hi
  rwa [Nat.mul_one] at this

/-- append(s, x...), s the call's own, x a row that is not empty. -/
theorem wp_vapp (hE : ElemType P T E n by_ z) (hf : ∀ x, (f x).length = n) (h1 : ∀ x, ∀ u ∈ f x, u.oneCell' = true) {w : World} {o : Oper} {act : Act} {K : Act → World → Prop} {Q : Exit → Act → World → Prop} (s x : Operand)
    (ho : o.op = .call { callee := .builtin .append, args := #[s, x], argTypes := #[T, T] }) {B : Nat}
    {a b : Option Addr} {l m : List α} {cap c : Nat} (hown : VOwn f n E B w a l cap) (hm : Vec f n w b m c) (hne : m ≠ []) (hlen : l.length + m.length ≤ 1000000000) (hbase : B ≤ w.heap.size)
    (hs : act.eval s = .slice a l.length cap) (hx : act.eval x = .slice b m.length c)
    (h : ∀ a' cap' w', VOwn f n E B w' a' (l ++ m) cap' → w.grownBy w' (blk a) → Near w.heap.size a a' → K (act.put o.dst (.slice a' (l ++ m).length cap')) w') : Oper.wp P o act w K Q := by
  obtain ⟨i, hi, hz0, hz1, hz2⟩ := info_parts hE.info
  obtain ⟨g, off, rfl⟩ := hm.spot hne
  refine wp_append_lies w s x T ho B E i z n by_ hE.slice hi hz0 hz1 hz2 hE.zs hE.pos _ l.length (l.flatMap f) hs hown.row ⟨g, off, none⟩ m.length c (m.flatMap f) hx (flatLen hf m) ?_ ?_ (List.length_pos_iff.2 hne) (by unfold maxLen; omega) ?_ hbase w.heap.size rfl ?_
  · intro j u hu
    have hj : j < m.length * n := by rw [← flatLen hf m]; exact (List.getElem?_eq_some_iff.1 hu).1
    have hn := hE.pos
    have e1 : j = j / n * n + j % n := by rw [Nat.mul_comm]; exact (Nat.div_add_mod j n).symm
    have hi' : j / n < m.length := (Nat.div_lt_iff_lt_mul hn).2 hj
    have hj' : j % n < n := Nat.mod_lt _ hn
    rw [add_ad]
    rw [e1] at hu ⊢
    rw [flatGet hf m _ _ hi' hj'] at hu
    rw [hm.cell _ hi' _ hj', hu]
  · intro u hu
    obtain ⟨y, _, hy⟩ := List.mem_flatMap.1 hu
    exact h1 y u hy
  · have := Nat.mul_le_mul hlen hE.few
    omega
  · intro g' cap' w' hown' hgr hat hlt
    rw [ownBlock_slice] at hgr hat
    rw [← List.length_append, ← List.flatMap_append] at hown'
    rw [← List.length_append]
    refine h (some ⟨g', 0, none⟩) cap' w' ⟨hown'⟩ hgr (fun k hk => ?_)
    simp only [blk, Option.map_some, Option.some.injEq] at hk
    subst hk
    rcases hat with h1 | h1
    · exact .inl h1
    · exact .inr (by omega)
theorem wpList_vapp (hE : ElemType P T E n by_ z) (hf : ∀ x, (f x).length = n) (h1 : ∀ x, ∀ u ∈ f x, u.oneCell' = true) {w : World} {ops : Array Oper} {rest : List Oper} {o : Oper} {act : Act} {Q : Exit → Act → World → Prop} (s x : Operand) (hgd : o.guard = none)
    (ho : o.op = .call { callee := .builtin .append, args := #[s, x], argTypes := #[T, T] }) {B : Nat}
    {a b : Option Addr} {l m : List α} {cap c : Nat} (hown : VOwn f n E B w a l cap) (hm : Vec f n w b m c) (hne : m ≠ []) (hlen : l.length + m.length ≤ 1000000000) (hbase : B ≤ w.heap.size)
    (hs : act.eval s = .slice a l.length cap) (hx : act.eval x = .slice b m.length c)
    (h : ∀ a' cap' w', VOwn f n E B w' a' (l ++ m) cap' → w.grownBy w' (blk a) → Near w.heap.size a a' → wpList P ops Q rest (act.put o.dst (.slice a' (l ++ m).length cap')) w') : wpList P ops Q (o :: rest) act w :=
  wpList_plain hgd fun _ hK => wp_vapp hE hf h1 s x ho hown hm hne hlen hbase hs hx fun a' cap' w' g1 g2 g3 => hK _ _ (h a' cap' w' g1 g2 g3)

/-- A slice written out: its elements' cells. -/
theorem vown_lit (w : World) (cs : Array Value) (E n : Nat) (l : List α) (hf : ∀ x, (f x).length = n) (h : cs = (l.flatMap f).toArray) (hl : l.length ≤ 1000000000) :
    VOwn f n E w.heap.size (w.alloc (.cells cs E)) (some ⟨w.heap.size, 0, none⟩) l l.length := by
  refine ⟨?_⟩
  subst h
  have hs : (l.flatMap f).toArray.size = l.length * n := by rw [List.size_toArray, flatLen hf]
  have := World.ownsRow_lit (base := w.heap.size) (e := E) (size := n) w (l.flatMap f).toArray l.length (Nat.le_refl _) (by unfold maxLen; omega) hs
  simpa using this
theorem vec_lit (w : World) (cs : Array Value) (E n : Nat) (l : List α) (hf : ∀ x, (f x).length = n) (h : cs = (l.flatMap f).toArray) (hl : l.length ≤ 1000000000) :
    Vec f n (w.alloc (.cells cs E)) (some ⟨w.heap.size, 0, none⟩) l l.length := (vown_lit w cs E n l hf h hl).vec hf

/-- s = append(s, x): x lies in a new box. All side conditions are facts of the world ahead of the box. -/
theorem wpList_vapp1 (hE : ElemType P T E n by_ z) (hf : ∀ x, (f x).length = n) (h1 : ∀ x, ∀ u ∈ f x, u.oneCell' = true) {w0 : World} {ops : Array Oper} {rest : List Oper} {o : Oper} {act : Act} {Q : Exit → Act → World → Prop} (s x : Operand) (hgd : o.guard = none)
    (ho : o.op = .call { callee := .builtin .append, args := #[s, x], argTypes := #[T, T] }) {B : Nat} {cs : Array Value}
    {a : Option Addr} {l : List α} {cap : Nat} {y : α} (hown : VOwn f n E B w0 a l cap) (hcs : cs = (f y).toArray) (hlen : l.length + 1 ≤ 1000000000) (hbase : B ≤ w0.heap.size)
    (hs : act.eval s = .slice a l.length cap) (hx : act.eval x = .slice (some ⟨w0.heap.size, 0, none⟩) 1 1)
    (h : ∀ a' cap' w', VOwn f n E B w' a' (l ++ [y]) cap' → w0.grownBy w' (blk a) → Near w0.heap.size a a' → wpList P ops Q rest (act.put o.dst (.slice a' (l ++ [y]).length cap')) w') : wpList P ops Q (o :: rest) act (w0.alloc (.cells cs E)) := by
  have hv : Vec f n (w0.alloc (.cells cs E)) (some ⟨w0.heap.size, 0, none⟩) [y] 1 := vec_lit w0 cs E n [y] hf (by rw [hcs]; simp) (by simp)
  refine wpList_vapp hE hf h1 s x hgd ho (hown.alloc _) hv (by simp) hlen (by simp; omega) hs hx ?_
  intro a' cap' w' g1 g2 g3
  refine h a' cap' w' g1 ?_ (fun g hg => ?_)
  · have h0 := World.grownBy_alloc w0 (.cells cs E) (blk a)
    refine ⟨g2.os.trans h0.os, g2.tape.trans h0.tape, g2.output.trans h0.output, Nat.le_trans h0.size g2.size, fun k hk hne => ?_⟩
    rw [g2.block k (Nat.lt_of_lt_of_le hk h0.size) hne, h0.block k hk hne]
  · rcases g3 g hg with h | h
    · exact .inl h
    · right; simp at h; omega
theorem VOwn.grown {E B w w' a cap} {l : List α} (h : VOwn f n E B w a l cap) (hg : w.grownBy w' (blk a)) (hb : B ≤ w.heap.size) : Below B w w' :=
  grown_below hg hb (fun _ hk => (h.blk_ge hk).1)

/-- The same as one step of a region that draws its order (the draw stands outermost). -/
theorem step_vapp1 (hE : ElemType P T E n by_ z) (hf : ∀ x, (f x).length = n) (h1 : ∀ x, ∀ u ∈ f x, u.oneCell' = true) {w0 : World} {ops : Array Oper} {o : Oper} {act : Act} {K : Act → World → Prop} {Q : Exit → Act → World → Prop} {F : Prop} (s x : Operand) (hgd : o.guard = none)
    (ho : o.op = .call { callee := .builtin .append, args := #[s, x], argTypes := #[T, T] }) {B : Nat} {cs : Array Value}
    {a : Option Addr} {l : List α} {cap : Nat} {y : α} (hown : VOwn f n E B w0 a l cap) (hcs : cs = (f y).toArray) (hlen : l.length + 1 ≤ 1000000000) (hbase : B ≤ w0.heap.size)
    (hs : act.eval s = .slice a l.length cap) (hx : act.eval x = .slice (some ⟨w0.heap.size, 0, none⟩) 1 1)
    (h : ∀ a' cap' w', VOwn f n E B w' a' (l ++ [y]) cap' → w0.grownBy w' (blk a) → Near w0.heap.size a a' → K (act.put o.dst (.slice a' (l ++ [y]).length cap')) w') :
    if Region.wanted o (yielded ops act.tmps) = true then Oper.wp P o act ((w0.alloc (.cells cs E)).drew) K Q else F := by
  have hw : Region.wanted o (yielded ops act.tmps) = true := by simp [Region.wanted, hgd]
  rw [if_pos hw]
  have hv : Vec f n ((w0.alloc (.cells cs E)).drew) (some ⟨w0.heap.size, 0, none⟩) [y] 1 := (vec_lit w0 cs E n [y] hf (by rw [hcs]; simp) (by simp)).drewN 1
  have hO : VOwn f n E B ((w0.alloc (.cells cs E)).drew) a l cap := (hown.alloc _).save (Save.drewN (S := fun _ => True) _ 1) (fun _ _ => trivial)
  refine wp_vapp hE hf h1 s x ho hO hv (by simp) hlen (by show B ≤ (w0.alloc (.cells cs E)).heap.size; simp; omega) hs hx ?_
  intro a' cap' w' g1 g2 g3
  refine h a' cap' w' g1 ?_ (fun g hg => ?_)
  · have h0 : w0.grownBy ((w0.alloc (.cells cs E)).drew) (blk a) := ⟨rfl, rfl, rfl, by show _ ≤ (w0.alloc (.cells cs E)).heap.size; simp, fun k hk _ => (World.grownBy_alloc w0 (.cells cs E) none).block k hk (by simp)⟩
    refine ⟨g2.os.trans h0.os, g2.tape.trans h0.tape, g2.output.trans h0.output, Nat.le_trans h0.size g2.size, fun k hk hne => ?_⟩
    rw [g2.block k (Nat.lt_of_lt_of_le hk h0.size) hne, h0.block k hk hne]
  · rcases g3 g hg with h | h
    · exact .inl h
    · right
      have h' : (w0.alloc (.cells cs E)).heap.size ≤ g := h
      simp at h'; omega

/-- The same with several elements in the new box. -/
theorem step_vappm (hE : ElemType P T E n by_ z) (hf : ∀ x, (f x).length = n) (h1 : ∀ x, ∀ u ∈ f x, u.oneCell' = true) {w0 : World} {ops : Array Oper} {o : Oper} {act : Act} {K : Act → World → Prop} {Q : Exit → Act → World → Prop} {F : Prop} (s x : Operand) (hgd : o.guard = none)
    (ho : o.op = .call { callee := .builtin .append, args := #[s, x], argTypes := #[T, T] }) {B m : Nat} {cs : Array Value}
    {a : Option Addr} {l : List α} {cap : Nat} (ys : List α) (hown : VOwn f n E B w0 a l cap) (hcs : cs = (ys.flatMap f).toArray) (hm : ys.length = m) (hy : ys ≠ []) (hlen : l.length + ys.length ≤ 1000000000) (hbase : B ≤ w0.heap.size)
    (hs : act.eval s = .slice a l.length cap) (hx : act.eval x = .slice (some ⟨w0.heap.size, 0, none⟩) m m)
    (h : ∀ a' cap' w', VOwn f n E B w' a' (l ++ ys) cap' → w0.grownBy w' (blk a) → Near w0.heap.size a a' → K (act.put o.dst (.slice a' (l ++ ys).length cap')) w') :
    if Region.wanted o (yielded ops act.tmps) = true then Oper.wp P o act ((w0.alloc (.cells cs E)).drew) K Q else F := by
  have hw : Region.wanted o (yielded ops act.tmps) = true := by simp [Region.wanted, hgd]
  rw [if_pos hw]
  subst hm
  have hv : Vec f n ((w0.alloc (.cells cs E)).drew) (some ⟨w0.heap.size, 0, none⟩) ys ys.length := (vec_lit w0 cs E n ys hf hcs (by omega)).drewN 1
  have hO : VOwn f n E B ((w0.alloc (.cells cs E)).drew) a l cap := (hown.alloc _).save (Save.drewN (S := fun _ => True) _ 1) (fun _ _ => trivial)
  refine wp_vapp hE hf h1 s x ho hO hv hy hlen (by show B ≤ (w0.alloc (.cells cs E)).heap.size; simp; omega) hs hx ?_
  intro a' cap' w' g1 g2 g3
  refine h a' cap' w' g1 ?_ (fun g hg => ?_)
  · have h0 : w0.grownBy ((w0.alloc (.cells cs E)).drew) (blk a) := ⟨rfl, rfl, rfl, by show _ ≤ (w0.alloc (.cells cs E)).heap.size; simp, fun k hk _ => (World.grownBy_alloc w0 (.cells cs E) none).block k hk (by simp)⟩
    refine ⟨g2.os.trans h0.os, g2.tape.trans h0.tape, g2.output.trans h0.output, Nat.le_trans h0.size g2.size, fun k hk hne => ?_⟩
    rw [g2.block k (Nat.lt_of_lt_of_le hk h0.size) hne, h0.block k hk hne]
  · rcases g3 g hg with h | h
    · exact .inl h
    · right
      have h' : (w0.alloc (.cells cs E)).heap.size ≤ g := h
      simp at h'; omega
/-- Bytes. -/
@[reducible] def cb (x : UInt8) : List Value := [vb x]
theorem cb_len : ∀ x, (cb x).length = 1 := fun _ => rfl
theorem cb_one : ∀ x, ∀ u ∈ cb x, u.oneCell' = true := by intro x u hu; obtain rfl : u = vb x := by simpa using hu
                                                          rfl
theorem flat_cb (l : List UInt8) : l.flatMap cb = l.map vb := by
  induction l with
  | nil => rfl
  | cons x l ih => rw [List.flatMap_cons, ih]; rfl
theorem VOwn.own {E B : Nat} {w : World} {a : Option Addr} {l : List UInt8} {c : Nat} (h : VOwn cb 1 E B w a l c) : Own E B w a l c := ⟨by have := h.row; rwa [flat_cb] at this⟩
theorem Own.vown {E B : Nat} {w : World} {a : Option Addr} {l : List UInt8} {c : Nat} (h : Own E B w a l c) : VOwn cb 1 E B w a l c := ⟨by have := h.row; rwa [← flat_cb] at this⟩
theorem ElemType.ofBytes {P : Program} {T E : TypeId} (h : ByteTypes P T E) : ElemType P T E 1 1 (.int .u8 0) := ⟨h.slice, h.info, h.sz, rfl, by decide, by decide⟩

/-- make([]T, n), of elements of one cell. -/
theorem wpList_vmake {v : α → Value} {x0 : α} (hE : ElemType P T E 1 by_ (v x0)) (hz : (v x0).cells = #[v x0]) {w : World} {ops : Array Oper} {rest : List Oper} {o : Oper} {act : Act} {Q : Exit → Act → World → Prop} (x y : Operand) (hgd : o.guard = none)
    (ho : o.op = .makeSlice T x y) (k : Nat) (k1 k2 : IntKind) {N : Int} (hx : act.eval x = .int k1 N) (hy : act.eval y = .int k2 N) (hN : N = (k : Int)) (hk : k ≤ 1000000000)
    (h : ∀ w', VOwn (fun x => [v x]) 1 E w.heap.size w' (some ⟨w.heap.size, 0, none⟩) (List.replicate k x0) k → w.grownBy w' none → w.heap.size < w'.heap.size → wpList P ops Q rest (act.put o.dst (.slice (some ⟨w.heap.size, 0, none⟩) k k)) w') : wpList P ops Q (o :: rest) act w := by
  subst hN
  obtain ⟨i, hi, hz0, hz1, hz2⟩ := info_parts hE.info
  have hf := hE.few
  refine wpList_make_full w hgd x y T ho w.heap.size E i (v x0) 1 hE.slice hi hz0 hz1 k1 k2 k k k hx hy rfl rfl (by rw [hz2]; have := Nat.mul_le_mul hf hk; omega) (by unfold maxLen; omega) (Nat.le_refl _) ?_
  intro w' hown hgr
  have e1 : (madeCells (v x0).cells (k * 1)).toList = (List.replicate k x0).flatMap (fun x => [v x]) := by
    rw [hz, toList_madeCells_one, Nat.mul_one]
    induction k with
    | zero => rfl
    | succ k ih =>
      have : ∀ k, List.replicate k (v x0) = (List.replicate k x0).flatMap (fun x => [v x]) := by
        intro k
        induction k with
        | zero => rfl
        | succ k ih => rw [List.replicate_succ, List.replicate_succ, List.flatMap_cons, ih]; rfl
      exact this _
  rw [e1] at hown
  have hO : VOwn (fun x => [v x]) 1 E w.heap.size w' (some ⟨w.heap.size, 0, none⟩) (List.replicate k x0) k := ⟨by simpa using hown⟩
  exact h w' hO hgr (hO.blk_ge (g := w.heap.size) rfl).2
/-- An element is stored into a slice of one's own. -/
theorem VOwn.stored {v : α → Value} {B g : Nat} {w : World} {l : List α} {cap : Nat} (h : VOwn (fun x => [v x]) 1 E B w (some ⟨g, 0, none⟩) l cap) (i : Nat) (y : α) :
    VOwn (fun x => [v x]) 1 E B (w.setCell ⟨g, i, none⟩ (v y)) (some ⟨g, 0, none⟩) (l.set i y) cap ∧ w.grownBy (w.setCell ⟨g, i, none⟩ (v y)) (some g) := by
  have hs := h.row.stored i (v y)
  have e : ∀ l : List α, l.flatMap (fun x => [v x]) = l.map v := fun l => by
    induction l with
    | nil => rfl
    | cons x l ih => rw [List.flatMap_cons, ih]; rfl
  refine ⟨⟨?_⟩, hs.2⟩
  have := hs.1
  rw [e] at this
  rw [e, List.length_set, List.map_set]
  exact this
theorem VOwn.frozen {B g : Nat} {w : World} {l : List α} {cap : Nat} (h : VOwn f n E B w (some ⟨g, 0, none⟩) l cap) (i : Nat) : w.frozen? ⟨g, i, none⟩ = false := by
  rcases h.row.2 with ⟨hv, _⟩ | ⟨g', c', cur, hv, hb, hg, _⟩
  · simp at hv
  · simp only [Value.slice.injEq, Option.some.injEq, Addr.mk.injEq, and_true, true_and] at hv
    obtain ⟨rfl, _⟩ := hv
    simp [World.frozen?, hg]

/-- append(s, x...), s the call's own; x may be empty. -/
theorem wpList_vappany (hE : ElemType P T E n by_ z) (hf : ∀ x, (f x).length = n) (h1 : ∀ x, ∀ u ∈ f x, u.oneCell' = true) {w : World} {ops : Array Oper} {rest : List Oper} {o : Oper} {act : Act} {Q : Exit → Act → World → Prop} (s x : Operand) (hgd : o.guard = none)
    (ho : o.op = .call { callee := .builtin .append, args := #[s, x], argTypes := #[T, T] }) {B : Nat}
    {a b : Option Addr} {l m : List α} {cap c : Nat} (hown : VOwn f n E B w a l cap) (hm : Vec f n w b m c) (hlen : l.length + m.length ≤ 1000000000) (hbase : B ≤ w.heap.size)
    (hs : act.eval s = .slice a l.length cap) (hx : act.eval x = .slice b m.length c)
    (h : ∀ a' cap' w', VOwn f n E B w' a' (l ++ m) cap' → w.grownBy w' (blk a) → wpList P ops Q rest (act.put o.dst (.slice a' (l ++ m).length cap')) w') : wpList P ops Q (o :: rest) act w := by
  by_cases h0 : m = []
  · subst h0
    obtain ⟨i, hi, hz0, hz1, hz2⟩ := info_parts hE.info
    cases b with
    | none =>
      have hc := hm.nil rfl
      subst hc
      refine wpList_append_own_none hgd s x T ho B E i n hE.slice hi (.slice a l.length cap) l.length (l.flatMap f) hs hown.row hx ?_
      have hk := h a cap w
      rw [List.append_nil] at hk
      exact hk hown ⟨rfl, rfl, rfl, Nat.le_refl _, fun _ _ _ => rfl⟩
    | some p =>
      refine wpList_append_own w hgd s x T ho B E i z n by_ hE.slice hi hz0 hz1 hz2 hE.zs hE.pos _ l.length (l.flatMap f) hs hown.row p 0 c [] hx (by simp) (fun j u hu => by simp at hu) (fun u hu => by simp at hu) (by simp at hlen; unfold maxLen; omega) (by have := Nat.mul_le_mul hlen hE.few; simp at this ⊢; omega) hbase ?_
      intro v' w' hown' hgr hnil
      rw [ownBlock_slice] at hgr
      have hv' : ∃ a' cap', v' = .slice a' l.length cap' := by
        rcases hown'.2 with ⟨hv, hn⟩ | ⟨g', c', cur, hv, _⟩
        · exact ⟨none, 0, by rw [hv]; simp; omega⟩
        · exact ⟨some ⟨g', 0, none⟩, c', by rw [hv]; simp⟩
      obtain ⟨a', cap', rfl⟩ := hv'
      have hk := h a' cap' w'
      rw [List.append_nil] at hk
      exact hk ⟨by simpa using hown'⟩ hgr
  · exact wpList_vapp hE hf h1 s x hgd ho hown hm h0 hlen hbase hs hx (fun a' cap' w' g1 g2 _ => h a' cap' w' g1 g2)
/-- make([]T, 0, k). -/
theorem wpList_vmake0 (hE : ElemType P T E n by_ z) {w : World} {ops : Array Oper} {rest : List Oper} {o : Oper} {act : Act} {Q : Exit → Act → World → Prop} (x y : Operand) (hgd : o.guard = none)
    (ho : o.op = .makeSlice T x y) (k : Nat) (k1 k2 : IntKind) {N : Int} (hx : act.eval x = .int k1 0) (hy : act.eval y = .int k2 N) (hN : N = (k : Int)) (hk : k ≤ 1000000000)
    (h : ∀ w', VOwn f n E w.heap.size w' (some ⟨w.heap.size, 0, none⟩) [] k → w.grownBy w' none → w.heap.size < w'.heap.size → wpList P ops Q rest (act.put o.dst (.slice (some ⟨w.heap.size, 0, none⟩) 0 k)) w') : wpList P ops Q (o :: rest) act w := by
  obtain ⟨i, hi, hz0, hz1, hz2⟩ := info_parts hE.info
  have hfw := hE.few
  refine wpList_make_own w hgd x y T ho w.heap.size E i z n hE.slice hi hz0 hz1 k1 k2 N k hx hy hN (by rw [hz2]; have := Nat.mul_le_mul hfw hk; omega) (by unfold maxLen; omega) (Nat.le_refl _) ?_
  intro w' hown hgr
  have hO : VOwn f n E w.heap.size w' (some ⟨w.heap.size, 0, none⟩) [] k := ⟨hown⟩
  exact h w' hO hgr (hO.blk_ge (g := w.heap.size) rfl).2

theorem zip_parts (ρ : Operand → Value) : ∀ (vs : List Value) (xs : List Operand) (i : Nat), xs.map ρ = vs → (xs.zipIdx i).map (fun x => (x.2, ρ x.1)) = (vs.zipIdx i).map (fun x => (x.2, x.1))
  | [], xs, i, h => by obtain rfl : xs = [] := by simpa using h
                       rfl
  | v :: vs, [], i, h => by simp at h
  | v :: vs, x :: xs, i, h => by
    simp only [List.map_cons, List.cons.injEq] at h
    simp only [List.zipIdx_cons, List.map_cons]
    rw [h.1, zip_parts ρ vs xs (i + 1) h.2]
/-- []T{x, y, ..}: the operation. -/
theorem run_vbuild (hE : ElemType P T E n by_ z) {ρ : Operand → Value} {o : Oper} (xs : List Operand) (vs : List Value) (k : Nat) (ho : o.op = .buildSlice T k ((xs.zipIdx 0).map fun x => (x.2, x.1)).toArray) (hx : xs.map ρ = vs) (hk : vs.length = k) (h0 : 0 < k) (hs : ∀ v ∈ vs, v.cells.size = n) (hk9 : k * n ≤ 2 ^ 24) (w : World) :
    (execOp ρ o).run P w = .ok (.value (.slice (some ⟨w.heap.size, 0, none⟩) k k)) (w.alloc (.cells (vs.flatMap fun v => v.cells.toList).toArray E)) := by
  obtain ⟨i, hi, hz0, hz1, hz2⟩ := info_parts hE.info
  have hn := hE.pos
  have hfill := Great.fill_whole (s := n) hn vs ((Array.range (k * n)).map (z.cells[· % z.cells.size]!)) hs (by rw [hk]; simp)
  have hb := run_buildSlice (P := P) w T E k ((vs.zipIdx 0).map fun x => (x.2, x.1)).toArray _ i z hE.slice hi hz0 (by rw [hz1]; omega) (by rw [hz1]; exact Nat.ne_of_gt (Nat.mul_pos h0 hn)) (by rw [hz1]; exact hfill)
  unfold execOp
  rw [ho]
  dsimp only
  rw [show (((xs.zipIdx 0).map fun x => (x.2, x.1)).toArray.map fun (i, x) => (i, ρ x)) = ((vs.zipIdx 0).map fun x => (x.2, x.1)).toArray by
    rw [List.map_toArray, List.map_map, ← zip_parts ρ vs xs 0 hx]; rfl, Sem.run_bind, hb]
  rfl
end
end Go.Cit

/- The reference's table, state at first, turns: walked. -/
namespace Go.Proofs.YtofagofpeedfcaaGreat
open Go Go.RowKit Go.Cit

theorem wordsT : ElemType Tryz.prog 79 96 1 4 (.int .u32 0) :=
  ⟨Tryz.underlying79, by kernel_rfl, by intro w; kernel_rfl, rfl, by decide, by decide⟩
@[reducible] def cw (x : UInt32) : List Value := [vw x]
theorem cw_len : ∀ x, (cw x).length = 1 := fun _ => rfl
theorem cw_one : ∀ x, ∀ u ∈ cw x, u.oneCell' = true := by intro x u hu; obtain rfl : u = vw x := by simpa using hu
                                                          rfl
theorem flat_cw (l : List UInt32) : l.flatMap cw = l.map vw := by
  induction l with
  | nil => rfl
  | cons x l ih => rw [List.flatMap_cons, ih]; rfl
/-- Words written out. -/
def litW (l : List UInt32) : List Operand := l.map fun x => .const (vw x)
theorem litW_parts (l : List UInt32) : ∀ i, (((litW l).zipIdx i).map fun x => (x.2, x.1)) = (l.zipIdx i).map fun x => (x.2, .const (vw x.1)) := by
  induction l with
  | nil => intro i; rfl
  | cons x l ih =>
    intro i
    have := ih (i + 1)
    simp only [litW, List.map_cons, List.zipIdx_cons] at this ⊢
    rw [this]
theorem build_words (l : List UInt32) (k : Nat) (hk : l.length = k) (h0 : 0 < k) (h9 : k ≤ 1000) {a : Act} {o : Oper} (ho : o.op = .buildSlice 79 k ((l.zipIdx 0).map fun x => (x.2, .const (vw x.1))).toArray) (w : World) :
    (execOp a.eval o).run Tryz.prog w = .ok (.value (.slice (some ⟨w.heap.size, 0, none⟩) k k)) (w.alloc (.cells (l.map vw).toArray 96)) := by
  have := run_vbuild wordsT (ρ := a.eval) (o := o) (litW l) (l.map vw) k (by rw [ho, litW_parts]) (by simp [litW]; intro x _; rfl) (by simpa using hk) h0 (by intro v hv; obtain ⟨x, _, rfl⟩ := List.mem_map.1 hv; rfl) (by omega) w
  rw [this]
  congr 3
  rw [List.flatMap_map]
  have e : l.flatMap (fun a => (vw a).cells.toList) = l.map vw := flat_cw l
  rw [e]

set_option maxRecDepth 100000 in
theorem reftable_calls (w : World) :
    Calls Tryz.prog 62 #[] w fun e w' => e = .returned (.slice (some ⟨w.heap.size, 0, none⟩) 64 64) ∧ VOwn cw 1 96 w.heap.size w' (some ⟨w.heap.size, 0, none⟩) kTab 64 ∧ Below w.heap.size w w' ∧ w.heap.size < w'.heap.size := by
  go_enter Tryz.func62, Tryz.ntmps62
  go_wp2_with ((with_reducible refine wpList_value (o := ⟨some 1, .buildSlice _ _ _, _, _, _, _⟩) (by with_unfolding_all rfl) (build_words kTab 64 rfl (by decide) (by decide) (by with_unfolding_all rfl) _) ?_))
  go_ret
  exact ⟨rfl, vown_lit w _ 96 1 kTab cw_len (by rw [flat_cw] <;> kernel_rfl) (by decide), (Below.refl _ _).alloc (Nat.le_refl _) _, by simp⟩
set_option maxRecDepth 100000 in
theorem reffirst_calls (w : World) :
    Calls Tryz.prog 40 #[] w fun e w' => e = .returned (.slice (some ⟨w.heap.size, 0, none⟩) 8 8) ∧ VOwn cw 1 96 w.heap.size w' (some ⟨w.heap.size, 0, none⟩) first8.l 8 ∧ Below w.heap.size w w' ∧ w.heap.size < w'.heap.size := by
  go_enter Tryz.func40, Tryz.ntmps40
  go_wp2_with ((with_reducible refine wpList_value (o := ⟨some 1, .buildSlice _ _ _, _, _, _, _⟩) (by with_unfolding_all rfl) (build_words first8.l 8 rfl (by decide) (by decide) (by with_unfolding_all rfl) _) ?_))
  go_ret
  exact ⟨rfl, vown_lit w _ 96 1 first8.l cw_len (by rw [flat_cw] <;> kernel_rfl) (by decide), (Below.refl _ _).alloc (Nat.le_refl _) _, by simp⟩

theorem turn_calls (w : World) (x : UInt32) (n : Nat) (h1 : 1 ≤ n) (h31 : n ≤ 31) :
    Calls Tryz.prog 63 #[vw x, .int .u64 n] w fun e w' => e = .returned (vw (rotN n x)) ∧ w = w' := by
  have p1 : (2 : Int) ^ n % 4294967296 = ((2 ^ n : Nat) : Int) := by
    have : 2 ^ n ≤ 2 ^ 31 := Nat.pow_le_pow_right (by decide) h31
    have e : ((2 ^ n : Nat) : Int) = (2 : Int) ^ n := by rw [Int.natCast_pow]; rfl
    rw [← e]; generalize (2 : Nat) ^ n = q at this ⊢; omega
  have p2 : (2 : Int) ^ (32 - n) % 4294967296 = ((2 ^ (32 - n) : Nat) : Int) := by
    have : 2 ^ (32 - n) ≤ 2 ^ 31 := Nat.pow_le_pow_right (by decide) (by omega)
    have e : ((2 ^ (32 - n) : Nat) : Int) = (2 : Int) ^ (32 - n) := by rw [Int.natCast_pow]; rfl
    rw [← e]; generalize (2 : Nat) ^ (32 - n) = q at this ⊢; omega
  have hp : 0 < 2 ^ n := Nat.pow_pos (by decide)
  have hne : ¬ ((2 : Int) ^ n % 4294967296 = 0) := by rw [p1]; generalize (2 : Nat) ^ n = q at hp ⊢; omega
  have HR : Hid (((x.toNat : Int) / (2 ^ n % 4294967296) % 4294967296 + (x.toNat : Int) * (2 ^ (32 - n) % 4294967296) % 4294967296) % 4294967296 = ((rotN n x).toNat : Int)) := by
    rw [Hid, p1, p2, ← rot_add n x h1 h31]
    have h3 : x.toNat / 2 ^ n < 4294967296 := Nat.lt_of_le_of_lt (Nat.div_le_self _ _) (w_lt x)
    have e1 : (x.toNat : Int) / ((2 ^ n : Nat) : Int) = ((x.toNat / 2 ^ n : Nat) : Int) := (Int.natCast_ediv _ _).symm
    have e2 : (x.toNat : Int) * ((2 ^ (32 - n) : Nat) : Int) = ((x.toNat * 2 ^ (32 - n) : Nat) : Int) := (Int.natCast_mul _ _).symm
    rw [e1, e2]
    generalize x.toNat / 2 ^ n = u at h3 ⊢
    generalize x.toNat * 2 ^ (32 - n) = v
    omega
  clear p1 p2 hp
  go_enter Tryz.func63, Tryz.ntmps63
  go_wp2
  go_ret
  exact ⟨ret_int HR.out, rfl⟩
end Go.Proofs.YtofagofpeedfcaaGreat

/- The reference's numbers of a block: walked. -/
namespace Go.Proofs.YtofagofpeedfcaaGreat
open Go Go.RowKit Go.Cit

theorem wDiv_8 (x : UInt32) : wDiv x (wI 8) = shrN 3 x := by
  unfold wDiv wI
  apply UInt32.toNat_inj.1
  rw [UInt32.toNat_div, shrN_toNat]; rfl
theorem wDiv_1024 (x : UInt32) : wDiv x (wI 1024) = shrN 10 x := by
  unfold wDiv wI
  apply UInt32.toNat_inj.1
  rw [UInt32.toNat_div, shrN_toNat]; rfl
theorem load4 (b : List UInt8) (hb : b.length = 64) (k : Nat) (hk : k < 16) : loadB b ((4 * k : Nat) : Int) 4 = (numB ((b.drop (4 * k)).take 4), true) := by
  unfold loadB
  rw [if_pos (by omega), Int.toNat_natCast]
theorem getD_cell {w : World} {B : Nat} {a : Option Addr} {S : List UInt32} {c : Nat} (h : VOwn cw 1 96 B w a S c) (i : Nat) (hi : i < S.length) : ∀ n, ({ w with drawn := n } : World).cell? (ad a i) = some (vw (S.getD i 0)) := by
  intro n
  have h1 : w.cell? (ad a i) = some (vw S[i]) := (h.vec cw_len).cell1 i hi
  have h2 : S.getD i 0 = S[i] := by simp [hi]
  rw [h2]
  exact h1

set_option maxRecDepth 100000 in
set_option maxHeartbeats 2000000 in
theorem numbers_calls (w : World) (a : Option Addr) (b : List UInt8) (c : Nat) (hr : Row w a b c) (hb : b.length = 64) :
    Calls Tryz.prog 61 #[.slice a 64 c] w fun e w' => ∃ a' c', e = .returned (.slice a' 64 c') ∧ VOwn cw 1 96 w.heap.size w' a' (sched b 64) c' ∧ Below w.heap.size w w' := by
  have HBL := Lib.hid hb
  clear hb
  go_enter Tryz.func61, Tryz.ntmps61
  go_wp2_with fail
  go_loopw [3, 4] (fun v i wr => ∃ (k : Nat) (S : List UInt32) (a' : Option Addr) (c' : Nat), k ≤ 64 ∧ i = .int .i64 k ∧ v = .slice a' S.length c' ∧ Hid (S = sched b k) ∧ VOwn cw 1 96 w.heap.size wr a' S c' ∧ Below w.heap.size w wr) (fun _ i _ => 64 - (intOf i).toNat)
  case atStart => exact ⟨0, [], none, 0, by omega, rfl, rfl, rfl, VOwn.nil_ _ _ _ _ _, Below.refl _ _⟩
  case round =>
    obtain ⟨k, S, a', c', hk, rfl, rfl, HL, hO, B⟩ := hrel
    have HSL : Hid (S.length = k) := by rw [Hid, HL.out, sched_length]
    have hrr := hr.stay B
    by_cases hlt : k < 64
    · have d1 : decide ((k : Int) < 64) = true := by simp; omega
      by_cases h16 : k < 16
      · have d2 : decide ((k : Int) < 16) = true := by simp; omega
        have e4 : IntKind.i64.wrap (4 * (k : Int)) = ((4 * k : Nat) : Int) := by rw [show (4 : Int) * k = ((4 * k : Nat) : Int) by omega]; exact IntWalk.i64_in _ (by omega)
        have hld := refload_calls wr a b c ((4 * k : Nat) : Int) 4 4 rfl (by decide) (by decide) (by omega) hrr
        rw [HBL.out, load4 b HBL.out k h16] at hld
        dsimp only at hld
        obtain ⟨y, hy⟩ : ∃ y, numB ((b.drop (4 * k)).take 4) = y := ⟨_, rfl⟩
        rw [hy] at hld
        have HLS : Hid (S ++ [wOfQ y] = sched b (k + 1)) := by rw [Hid, sched, if_pos h16, hy, ← HL.out]
        have HLD := Lib.hid hld
        have h9 : S.length + 1 ≤ 1000000000 := by rw [HSL.out]; omega
        clear hy hld
        go_wp2_with fail
        refine HLD.out.mono ?_
        rintro e w' ⟨rfl, rfl⟩
        go_wp2_with (first
          | ((with_reducible refine wpList_vapp1 (o := ⟨some 26, .call _, _, _, _, _⟩) wordsT cw_len cw_one (y := wOfQ y) (.tmp 22) (.tmp 25) (by with_unfolding_all rfl) (by with_unfolding_all rfl) hO (by with_unfolding_all rfl) h9 B.size (by with_unfolding_all rfl) (by with_unfolding_all rfl) ?_); intro a2 c2 w2 hO2 hg2 hn2; have HO2 := Lib.hid hO2; have HB2 := Lib.hid (B.trans (hO.grown hg2 B.size)); clear hO2 hg2 hn2))
        go_roundw
        case rel => exact ⟨k + 1, _, _, _, by omega, by go_num, by simp, HLS, HO2.out, HB2.out⟩
        case measure => simp [intOf]; omega
      · have d2 : decide ((k : Int) < 16) = false := by simp; omega
        obtain ⟨m16, hm16⟩ : ∃ m, k = m + 16 := ⟨k - 16, by omega⟩
        have w16 : IntKind.i64.wrap ((k : Int) - 16) = ((m16 : Nat) : Int) := by rw [show (k : Int) - 16 = ((m16 : Nat) : Int) by omega]; exact IntWalk.i64_in _ (by omega)
        obtain ⟨m7, hm7⟩ : ∃ m, m = m16 + 9 := ⟨_, rfl⟩
        obtain ⟨m15, hm15⟩ : ∃ m, m = m16 + 1 := ⟨_, rfl⟩
        obtain ⟨m2, hm2⟩ : ∃ m, m = m16 + 14 := ⟨_, rfl⟩
        have w7 : IntKind.i64.wrap ((k : Int) - 7) = (m7 : Int) := by rw [show (k : Int) - 7 = (m7 : Int) by omega]; exact IntWalk.i64_in _ (by omega)
        have w15 : IntKind.i64.wrap ((k : Int) - 15) = (m15 : Int) := by rw [show (k : Int) - 15 = (m15 : Int) by omega]; exact IntWalk.i64_in _ (by omega)
        have w2' : IntKind.i64.wrap ((k : Int) - 2) = (m2 : Int) := by rw [show (k : Int) - 2 = (m2 : Int) by omega]; exact IntWalk.i64_in _ (by omega)
        have HKS := HSL.out
        have ix := fun (i : Nat) (hi : i < S.length) (W : World) => (hO.vec cw_len).index1 wordsT i hi W
        have i16 := ix m16 (by omega)
        have i7 := ix m7 (by omega)
        have i15 := ix m15 (by omega)
        have i2 := ix m2 (by omega)
        have c16 := getD_cell hO m16 (by omega)
        have c7 := getD_cell hO m7 (by omega)
        have c15 := getD_cell hO m15 (by omega)
        have c2 := getD_cell hO m2 (by omega)
        obtain ⟨x, hx⟩ : ∃ x, x = wAdd (wAdd (wAdd (S.getD m16 0) (S.getD m7 0)) (movedW 7 18 3 (S.getD m15 0))) (movedW 17 19 10 (S.getD m2 0)) := ⟨_, rfl⟩
        have HLS : Hid (S ++ [x] = sched b (k + 1)) := by
          rw [Hid, sched, if_neg (by omega), ← HL.out, hx, show k - 16 = m16 by omega, show k - 7 = m7 by omega, show k - 15 = m15 by omega, show k - 2 = m2 by omega]
        obtain ⟨y16, hy16⟩ : ∃ y, S.getD m16 0 = y := ⟨_, rfl⟩
        obtain ⟨y7, hy7⟩ : ∃ y, S.getD m7 0 = y := ⟨_, rfl⟩
        obtain ⟨y15, hy15⟩ : ∃ y, S.getD m15 0 = y := ⟨_, rfl⟩
        obtain ⟨y2, hy2⟩ : ∃ y, S.getD m2 0 = y := ⟨_, rfl⟩
        rw [hy16, hy7, hy15, hy2] at hx
        rw [hy16] at c16
        rw [hy7] at c7
        rw [hy15] at c15
        rw [hy2] at c2
        unfold movedW threeW at hx
        rw [← wDiv_8, ← wDiv_1024] at hx
        have h9 : S.length + 1 ≤ 1000000000 := by rw [HSL.out]; omega
        have HX := Lib.hid hx
        have HM := Lib.hid (And.intro hm16 hm7)
        have HY := Lib.hid (And.intro hy16 hy7)
        clear hm16 hm7 hm15 hm2 hy16 hy7 hy15 hy2 hx HKS ix
        go_wp2_with fail
        go_quiet (fail)
        go_wp2_with fail
        refine (turn_calls _ y15 7 (by decide) (by decide)).mono ?_
        rintro e w1 ⟨rfl, rfl⟩
        go_wp2_with fail
        refine (turn_calls _ y15 18 (by decide) (by decide)).mono ?_
        rintro e w1 ⟨rfl, rfl⟩
        go_wp2_with fail
        refine (turn_calls _ y2 17 (by decide) (by decide)).mono ?_
        rintro e w1 ⟨rfl, rfl⟩
        go_wp2_with fail
        refine (turn_calls _ y2 19 (by decide) (by decide)).mono ?_
        rintro e w1 ⟨rfl, rfl⟩
        go_wp2_with fail
        have hOd : VOwn cw 1 96 w.heap.size (wr.drewN nq) a' S c' := hO.save (Save.drewN (S := fun _ => True) _ _) (fun _ _ => trivial)
        have Bd : Below w.heap.size w (wr.drewN nq) := B.trans (below_drewN _ _ _)
        have hwa : ∀ x y : UInt32, IntKind.u32.wrap ((x.toNat : Int) + y.toNat) = ((wAdd x y).toNat : Int) := wrap_w_add
        clear c16 c7 c15 c2
        generalize wr.drewN nq = W at hOd Bd ⊢
        have c16 := getD_cell hOd m16 (by have := HSL.out; have := HM.out; omega)
        have c7 := getD_cell hOd m7 (by have := HSL.out; have := HM.out; omega)
        rw [HY.out.1] at c16
        rw [HY.out.2] at c7
        go_region_law (refine step_vapp1 wordsT cw_len cw_one (y := x) (.tmp 53) (.tmp 69) rfl rfl hOd (by rw [HX.out]) h9 Bd.size rfl rfl ?_; intro a2 c2 w2 hO2 hg2 hn2)
        all_goals
          simp only [Act.put]
          have HO2 := Lib.hid hO2
          have HB2 := Lib.hid (Bd.trans (hOd.grown hg2 Bd.size))
          clear hO2 hg2 hn2
          go_wp2_with fail
          go_roundw
          case rel => exact ⟨k + 1, _, _, _, by omega, by go_num, by simp, HLS, HO2.out, HB2.out⟩
          case measure => simp [intOf]; omega
    · have hk2 : k = 64 := by omega
      have d1 : decide ((k : Int) < 64) = false := by simp; omega
      have HS2 : Hid (S = sched b 64) := by rw [Hid, HL.out, hk2]
      have HSL2 : Hid (S.length = 64) := by rw [Hid, HSL.out, hk2]
      clear hk2
      go_wp2_with fail
      go_ret
      refine ⟨a', c', ?_, ?_, B⟩
      · show Ending.returned (.slice a' S.length c') = _
        rw [HSL2.out]
      · rw [← HS2.out]; exact hO
end Go.Proofs.YtofagofpeedfcaaGreat

/- The reference's Eat: walked. -/
namespace Go.Proofs.YtofagofpeedfcaaGreat
open Go Go.RowKit Go.Cit

theorem turn_q (w : World) (x : UInt32) (m : Int) (n : Nat) (hm : m = (n : Int)) (h1 : 1 ≤ n) (h31 : n ≤ 31) :
    Calls Tryz.prog 63 #[vw x, .int .u64 m] w fun e w' => e = .returned (vw (rotN n x)) ∧ w' = w := by
  subst hm; exact (turn_calls w x n h1 h31).mono fun _ _ ⟨h, k⟩ => ⟨h, k.symm⟩
/-- A round, as the reference reckons it. -/
def rndR (s : S8) (k w : UInt32) : S8 :=
  let t := wAdd (wAdd (wAdd (wAdd s.h (wXor (wXor (rotN 6 s.e) (rotN 11 s.e)) (rotN 25 s.e))) (wOr (wAnd s.e s.f) (wAnd (wNot s.e) s.g))) k) w
  let u := wAdd (wXor (wXor (rotN 2 s.a) (rotN 13 s.a)) (rotN 22 s.a)) (wXor (wXor (wAnd s.a s.b) (wAnd s.a s.c)) (wAnd s.b s.c))
  ⟨wAdd t u, s.a, s.b, s.c, wAdd s.d t, s.e, s.f, s.g⟩
theorem rndR_eq (s : S8) (k w : UInt32) : rndR s k w = s.rnd k w := by
  unfold rndR S8.rnd turnedW threeW
  rw [choice_eq, most_eq]

set_option maxRecDepth 100000 in
set_option maxHeartbeats 4000000 in
theorem refeat_calls (w : World) (a0 : Option Addr) (s : S8) (c0 : Nat) (hs : Vec cw 1 w a0 s.l c0) (a : Option Addr) (b : List UInt8) (c : Nat) (hr : Row w a b c) (hb : b.length = 64) :
    Calls Tryz.prog 41 #[.slice a0 8 c0, .slice a 64 c] w fun e w' => ∃ a', e = .returned (.slice a' 8 8) ∧ VOwn cw 1 96 w.heap.size w' a' (s.eat kTab b).l 8 ∧ Below w.heap.size w w' := by
  have HBL := Lib.hid hb
  clear hb
  go_enter Tryz.func41, Tryz.ntmps41
  go_wp2_with fail
  refine (numbers_calls w a b c hr HBL.out).mono ?_
  rintro e w1 ⟨a1, c1, rfl, hN, hb1⟩
  go_wp2_with fail
  refine (reftable_calls w1).mono ?_
  rintro e w2 ⟨rfl, hK, hb2, hlt2⟩
  have hB2 : Below w.heap.size w w2 := hb1.trans (hb2.mono hb1.size)
  have hs2 := hs.stay cw_len hB2
  have HN2 := Lib.hid ((hN.stay hb2).vec cw_len)
  have HK2 := Lib.hid (hK.vec cw_len)
  have HS := Lib.hid hs2
  have i0 : ∀ w, (Instr.indexAt 79 (.slice a0 8 c0) (.int .i64 0)).run Tryz.prog w = .ok (.pointer (some (ad a0 0))) w := hs2.index1 wordsT 0 (by simp [S8.l])
  have i1 : ∀ w, (Instr.indexAt 79 (.slice a0 8 c0) (.int .i64 1)).run Tryz.prog w = .ok (.pointer (some (ad a0 1))) w := hs2.index1 wordsT 1 (by simp [S8.l])
  have i2 : ∀ w, (Instr.indexAt 79 (.slice a0 8 c0) (.int .i64 2)).run Tryz.prog w = .ok (.pointer (some (ad a0 2))) w := hs2.index1 wordsT 2 (by simp [S8.l])
  have i3 : ∀ w, (Instr.indexAt 79 (.slice a0 8 c0) (.int .i64 3)).run Tryz.prog w = .ok (.pointer (some (ad a0 3))) w := hs2.index1 wordsT 3 (by simp [S8.l])
  have i4 : ∀ w, (Instr.indexAt 79 (.slice a0 8 c0) (.int .i64 4)).run Tryz.prog w = .ok (.pointer (some (ad a0 4))) w := hs2.index1 wordsT 4 (by simp [S8.l])
  have i5 : ∀ w, (Instr.indexAt 79 (.slice a0 8 c0) (.int .i64 5)).run Tryz.prog w = .ok (.pointer (some (ad a0 5))) w := hs2.index1 wordsT 5 (by simp [S8.l])
  have i6 : ∀ w, (Instr.indexAt 79 (.slice a0 8 c0) (.int .i64 6)).run Tryz.prog w = .ok (.pointer (some (ad a0 6))) w := hs2.index1 wordsT 6 (by simp [S8.l])
  have i7 : ∀ w, (Instr.indexAt 79 (.slice a0 8 c0) (.int .i64 7)).run Tryz.prog w = .ok (.pointer (some (ad a0 7))) w := hs2.index1 wordsT 7 (by simp [S8.l])
  have HI := Lib.hid (And.intro i0 (And.intro i1 (And.intro i2 (And.intro i3 (And.intro i4 (And.intro i5 (And.intro i6 i7)))))))
  have e0 : ∀ n, ({ w2 with drawn := n } : World).cell? (ad a0 0) = some (vw s.a) := fun _ => hs2.cell1 0 (by simp [S8.l])
  have e1 : ∀ n, ({ w2 with drawn := n } : World).cell? (ad a0 1) = some (vw s.b) := fun _ => hs2.cell1 1 (by simp [S8.l])
  have e2 : ∀ n, ({ w2 with drawn := n } : World).cell? (ad a0 2) = some (vw s.c) := fun _ => hs2.cell1 2 (by simp [S8.l])
  have e3 : ∀ n, ({ w2 with drawn := n } : World).cell? (ad a0 3) = some (vw s.d) := fun _ => hs2.cell1 3 (by simp [S8.l])
  have e4 : ∀ n, ({ w2 with drawn := n } : World).cell? (ad a0 4) = some (vw s.e) := fun _ => hs2.cell1 4 (by simp [S8.l])
  have e5 : ∀ n, ({ w2 with drawn := n } : World).cell? (ad a0 5) = some (vw s.f) := fun _ => hs2.cell1 5 (by simp [S8.l])
  have e6 : ∀ n, ({ w2 with drawn := n } : World).cell? (ad a0 6) = some (vw s.g) := fun _ => hs2.cell1 6 (by simp [S8.l])
  have e7 : ∀ n, ({ w2 with drawn := n } : World).cell? (ad a0 7) = some (vw s.h) := fun _ => hs2.cell1 7 (by simp [S8.l])
  clear hs hN hK hb1 hb2 hlt2 hs2 hr
  go_wp2_with fail
  go_quiet (fail)
  clear i0 i1 i2 i3 i4 i5 i6 i7 e0 e1 e2 e3 e4 e5 e6 e7
  have HW : Below w2.heap.size w2 (w2.drewN nq) := below_drewN _ _ _
  go_wp2_with fail
  have HI1 : Hid (∀ k, k < 64 → ∀ w, (Instr.indexAt 79 (.slice a1 64 c1) (.int .i64 ((k : Nat) : Int))).run Tryz.prog w = .ok (.pointer (some (ad a1 k))) w) := fun k hk => by
    have := HN2.out.index1 wordsT k (by rw [sched_length]; exact hk)
    rwa [sched_length] at this
  have HI2 : Hid (∀ k, k < 64 → ∀ w, (Instr.indexAt 79 (.slice (some ⟨w1.heap.size, 0, none⟩) 64 64) (.int .i64 ((k : Nat) : Int))).run Tryz.prog w = .ok (.pointer (some (ad (some ⟨w1.heap.size, 0, none⟩) k))) w) := fun k hk => HK2.out.index1 wordsT k hk
  have B0 : Below w2.heap.size w2 (w2.drewN nq) := HW
  clear HW
  obtain ⟨X, hX⟩ : ∃ X, Hid (X = sched b 64) := ⟨_, rfl⟩
  obtain ⟨K, hK⟩ : ∃ K, Hid (K = kTab) := ⟨_, rfl⟩
  rw [← hX.out] at HN2
  rw [← hK.out] at HK2
  have HXL : Hid (X.length = 64) := by rw [Hid, hX.out, sched_length]
  have HKL : Hid (K.length = 64) := by rw [Hid, hK.out]; rfl
  go_loopw [7, 8, 9, 10, 11, 12, 13, 14, 15] (fun x0 x1 x2 x3 x4 x5 x6 x7 i wr => ∃ (k : Nat) (t : S8), k ≤ 64 ∧ i = .int .i64 k ∧ x0 = vw t.a ∧ x1 = vw t.b ∧ x2 = vw t.c ∧ x3 = vw t.d ∧ x4 = vw t.e ∧ x5 = vw t.f ∧ x6 = vw t.g ∧ x7 = vw t.h ∧ Hid (t = s.rounds K X k) ∧ Below w2.heap.size w2 wr) (fun _ _ _ _ _ _ _ _ i _ => 64 - (intOf i).toNat)
  case atStart => exact ⟨0, s, by omega, rfl, rfl, rfl, rfl, rfl, rfl, rfl, rfl, rfl, rfl, B0⟩
  case round =>
    clear B0
    obtain ⟨k, t, hk, rfl, rfl, rfl, rfl, rfl, rfl, rfl, rfl, rfl, HT, B⟩ := hrel
    by_cases hlt : k < 64
    · have d1 : decide ((k : Int) < 64) = true := by simp; omega
      have i1 := HI1.out k hlt
      have i2 := HI2.out k hlt
      have HNr := HN2.out.stay cw_len B
      have HKr := HK2.out.stay cw_len B
      have e1 : ∀ n, ({ wr with drawn := n } : World).cell? (ad a1 k) = some (vw (X.getD k 0)) := fun _ => by
        have h := HNr.cell1 k (by rw [HXL.out]; exact hlt)
        have h2 : X.getD k 0 = X[k]'(by rw [HXL.out]; exact hlt) := by simp [HXL.out, hlt]
        rw [h2]; exact h
      have e2 : ∀ n, ({ wr with drawn := n } : World).cell? (ad (some ⟨w1.heap.size, 0, none⟩) k) = some (vw (K.getD k 0)) := fun _ => by
        have h := HKr.cell1 k (by rw [HKL.out]; exact hlt)
        have h2 : K.getD k 0 = K[k]'(by rw [HKL.out]; exact hlt) := by simp [HKL.out, hlt]
        rw [h2]; exact h
      have HR : Hid (rndR t (K.getD k 0) (X.getD k 0) = s.rounds K X (k + 1)) := by rw [Hid, rndR_eq, HT.out]; rfl
      obtain ⟨y1, hy1⟩ : ∃ y, X.getD k 0 = y := ⟨_, rfl⟩
      obtain ⟨y2, hy2⟩ : ∃ y, K.getD k 0 = y := ⟨_, rfl⟩
      rw [hy1] at e1
      rw [hy2] at e2
      rw [hy1, hy2] at HR
      clear hy1 hy2 HNr HKr
      go_wp2_with fail
      have wa : ∀ x y : UInt32, IntKind.u32.wrap ((x.toNat : Int) + y.toNat) = ((wAdd x y).toNat : Int) := wrap_w_add
      go_still_tail 29, (by kernel_rfl)
      still_call (turn_q _ t.e 6 6 rfl (by decide) (by decide))
      repeat still_step
      still_call (turn_q _ t.e 11 11 rfl (by decide) (by decide))
      repeat still_step
      still_call (turn_q _ t.e 25 25 rfl (by decide) (by decide))
      repeat still_step
      refine wpStill_nil ?_
      change wpList _ _ _ _ _ wr.drew
      have Bd : Below w2.heap.size w2 wr.drew := B.trans (below_drewN _ _ 1)
      generalize wr.drew = W at Bd ⊢
      go_wp2_with fail
      refine (turn_q _ t.a 2 2 rfl (by decide) (by decide)).mono ?_
      rintro e w3 ⟨rfl, rfl⟩
      go_wp2_with fail
      refine (turn_q _ t.a 13 13 rfl (by decide) (by decide)).mono ?_
      rintro e w3 ⟨rfl, rfl⟩
      go_wp2_with fail
      refine (turn_q _ t.a 22 22 rfl (by decide) (by decide)).mono ?_
      rintro e w3 ⟨rfl, rfl⟩
      go_wp2_with fail
      go_roundw
      case rel => exact ⟨k + 1, rndR t y2 y1, by omega, by go_num, rfl, rfl, rfl, rfl, rfl, rfl, rfl, rfl, HR, Bd⟩
      case measure => simp [intOf]; omega
    · have hk2 : k = 64 := by omega
      have d1 : decide ((k : Int) < 64) = false := by simp; omega
      have hsr := HS.out.stay cw_len B
      obtain ⟨i0, i1, i2, i3, i4, i5, i6, i7⟩ := HI.out
      have e0 : ∀ n, ({ wr with drawn := n } : World).cell? (ad a0 0) = some (vw s.a) := fun _ => hsr.cell1 0 (by simp [S8.l])
      have e1 : ∀ n, ({ wr with drawn := n } : World).cell? (ad a0 1) = some (vw s.b) := fun _ => hsr.cell1 1 (by simp [S8.l])
      have e2 : ∀ n, ({ wr with drawn := n } : World).cell? (ad a0 2) = some (vw s.c) := fun _ => hsr.cell1 2 (by simp [S8.l])
      have e3 : ∀ n, ({ wr with drawn := n } : World).cell? (ad a0 3) = some (vw s.d) := fun _ => hsr.cell1 3 (by simp [S8.l])
      have e4 : ∀ n, ({ wr with drawn := n } : World).cell? (ad a0 4) = some (vw s.e) := fun _ => hsr.cell1 4 (by simp [S8.l])
      have e5 : ∀ n, ({ wr with drawn := n } : World).cell? (ad a0 5) = some (vw s.f) := fun _ => hsr.cell1 5 (by simp [S8.l])
      have e6 : ∀ n, ({ wr with drawn := n } : World).cell? (ad a0 6) = some (vw s.g) := fun _ => hsr.cell1 6 (by simp [S8.l])
      have e7 : ∀ n, ({ wr with drawn := n } : World).cell? (ad a0 7) = some (vw s.h) := fun _ => hsr.cell1 7 (by simp [S8.l])
      have wa : ∀ x y : UInt32, IntKind.u32.wrap ((x.toNat : Int) + y.toNat) = ((wAdd x y).toNat : Int) := wrap_w_add
      have HE : Hid ([wAdd s.a t.a, wAdd s.b t.b, wAdd s.c t.c, wAdd s.d t.d, wAdd s.e t.e, wAdd s.f t.f, wAdd s.g t.g, wAdd s.h t.h] = (s.eat kTab b).l) := by
        rw [Hid, S8.eat, ← hX.out, ← hK.out, ← hk2, ← HT.out]
        simp only [S8.plus, S8.l]
        unfold wAdd
        simp only [UInt32.add_comm]
      clear hk2 hsr
      go_wp2_with fail
      go_still_tail 40, (by kernel_rfl)
      change wpList _ _ _ _ _ wr.drew
      have Bd : Below w2.heap.size w2 wr.drew := B.trans (below_drewN _ _ 1)
      generalize wr.drew = W at Bd ⊢
      go_wp2_with fail
      go_ret
      have hBW : Below w.heap.size w W := hB2.trans (Bd.mono hB2.size)
      refine ⟨some ⟨W.heap.size, 0, none⟩, rfl, ?_, hBW.trans ((Below.refl _ _).alloc hBW.size _)⟩
      rw [← HE.out]
      exact (vown_lit W _ 96 1 _ cw_len (by rw [flat_cw]; rfl) (by simp)).low hBW.size
end Go.Proofs.YtofagofpeedfcaaGreat

/- Arrays of bytes, of words, compared. No condition. -/
namespace Go.Cit
open Go Go.RowKit

theorem mapM_some {α β : Type} {f : α → Option β} {g : α → β} : ∀ l : List α, (∀ i ∈ l, f i = some (g i)) → l.mapM f = some (l.map g)
  | [], _ => rfl
  | i :: l, h => by
    rw [List.mapM_cons, h i (by simp), mapM_some l (fun j hj => h j (by simp [hj]))]
    rfl
section
variable {P : Program} {T E : TypeId} {n : Nat} {k : IntKind}
/-- T is an array of n numbers of kind k. -/
structure IntsType (P : Program) (T E : TypeId) (n : Nat) (k : IntKind) : Prop where
  arr : P.underlying T = some (.array n E)
  int : P.underlying E = some (.int k)
  cells : P.cellsOf T = n
  one : P.cellsOf E = 1
  key : P.keyTypeAt 2 T = true
  guard : P.eqGuardType P.depth T = false

theorem keyLits_ints (h : IntsType P T E n k) (zs : List Int) (hl : zs.length = n) (hw : ∀ z ∈ zs, (Lit.int k z).wf = true) : P.keyLits 2 T (zs.map (Value.int k)) = some (zs.map (Lit.int k)) := by
  unfold Program.keyLits
  simp only [h.arr]
  rw [if_pos (by rw [List.length_map, h.cells, hl])]
  have e : (List.range n).mapM (fun i => P.keyLits 1 E (((zs.map (Value.int k)).drop (i * P.cellsOf E)).take (P.cellsOf E))) = some ((List.range n).map fun i => [Lit.int k (zs.getD i 0)]) := by
    refine mapM_some _ fun i hi => ?_
    have hi' : i < zs.length := by rw [hl]; exact List.mem_range.1 hi
    rw [h.one, Nat.mul_one, List.drop_eq_getElem_cons (by simpa using hi'), List.take_succ_cons, List.take_zero]
    unfold Program.keyLits
    simp only [h.int]
    rw [List.getElem_map]
    simp only [hw _ (List.getElem_mem hi'), and_self, if_true]
    simp [hi']
  rw [e]
  simp only [Option.map_some, Option.some.injEq]
  have hfl : ∀ l : List Nat, (l.map fun i => [Lit.int k (zs.getD i 0)]).flatten = l.map fun i => Lit.int k (zs.getD i 0) := by
    intro l
    induction l with
    | nil => rfl
    | cons a l ih => rw [List.map_cons, List.flatten_cons, ih]; rfl
  rw [hfl]
  apply List.ext_getElem
  · simp [hl]
  · intro i h1 h2
    have hi : i < zs.length := by simpa using h2
    simp [hi]
theorem run_eq_ints (h : IntsType P T E n k) (zs ys : List Int) (hl : zs.length = n) (hm : ys.length = n) (hw : ∀ z ∈ zs, (Lit.int k z).wf = true) (hv : ∀ z ∈ ys, (Lit.int k z).wf = true) (w : World) :
    (Op.equalIn 10000 T (.agg (zs.map (Value.int k)).toArray) (.agg (ys.map (Value.int k)).toArray)).run P w = .ok (decide (zs = ys)) w := by
  have hf : ∀ l : List Int, l.length = n → (Value.agg (l.map (Value.int k)).toArray).formed P T = true := by
    intro l hl
    simp [Value.formed, h.arr, h.cells, hl]
  obtain ⟨r, hr, hiff⟩ := run_equalIn_deep (P := P) 9998 2 T h.key w 2 2 _ _ _ _ (hf zs hl) (hf ys hm) (by simpa [Value.cells] using keyLits_ints h zs hl hw) (by simpa [Value.cells] using keyLits_ints h ys hm hv)
  have hinj : (zs.map (Lit.int k) = ys.map (Lit.int k)) ↔ zs = ys := by
    constructor
    · intro e
      exact (List.map_inj_right (by intro a b hab; injection hab)).1 e
    · rintro rfl; rfl
  rw [hinj] at hiff
  rw [hr]
  congr 1
  rw [Bool.eq_iff_iff, decide_eq_true_iff]; exact hiff
end
section
variable {P : Program} {T E : TypeId} {n : Nat}
theorem run_eq_bytes (h : IntsType P T E n .u8) (l m : List UInt8) (hl : l.length = n) (hm : m.length = n) (w : World) :
    (Op.equalIn 10000 T (.agg (l.map vb).toArray) (.agg (m.map vb).toArray)).run P w = .ok (decide (l = m)) w := by
  have wf : ∀ l : List UInt8, ∀ z ∈ l.map (fun x => (x.toNat : Int)), (Lit.int .u8 z).wf = true := by
    intro l z hz
    obtain ⟨x, _, rfl⟩ := List.mem_map.1 hz
    have := b_lt x
    simp [Lit.wf, IntKind.min, IntKind.max, IntKind.bits, IntKind.signed]; omega
  have := run_eq_ints h (l.map fun x => (x.toNat : Int)) (m.map fun x => (x.toNat : Int)) (by simpa using hl) (by simpa using hm) (wf l) (wf m) w
  rw [List.map_map, List.map_map] at this
  refine this.trans ?_
  congr 1
  rw [Bool.eq_iff_iff, decide_eq_true_iff, decide_eq_true_iff]
  exact List.map_inj_right (by intro a b hab; exact UInt8.toNat_inj.1 (by omega))
theorem run_eq_words (h : IntsType P T E n .u32) (l m : List UInt32) (hl : l.length = n) (hm : m.length = n) (w : World) :
    (Op.equalIn 10000 T (.agg (l.map vw).toArray) (.agg (m.map vw).toArray)).run P w = .ok (decide (l = m)) w := by
  have wf : ∀ l : List UInt32, ∀ z ∈ l.map (fun x => (x.toNat : Int)), (Lit.int .u32 z).wf = true := by
    intro l z hz
    obtain ⟨x, _, rfl⟩ := List.mem_map.1 hz
    have := w_lt x
    simp [Lit.wf, IntKind.min, IntKind.max, IntKind.bits, IntKind.signed]; omega
  have := run_eq_ints h (l.map fun x => (x.toNat : Int)) (m.map fun x => (x.toNat : Int)) (by simpa using hl) (by simpa using hm) (wf l) (wf m) w
  rw [List.map_map, List.map_map] at this
  refine this.trans ?_
  congr 1
  rw [Bool.eq_iff_iff, decide_eq_true_iff, decide_eq_true_iff]
  exact List.map_inj_right (by intro a b hab; exact UInt32.toNat_inj.1 (by omega))
end
section
variable {P : Program} {T : TypeId} {C D : Array Value} {r : Bool}
/-- == and != of two aggregates. -/
theorem run_eql_op (hg : P.eqGuardType P.depth T = false) (x y : Operand) (h : ∀ w, (Op.equalIn 10000 T (.agg C) (.agg D)).run P w = .ok r w) : ∀ w, (do eqGuard .eql T x y (.agg C) (.agg D); binOp .eql T (.agg C) (.agg D) : Sem Value).run P w = .ok (.bool r) w := by
  intro w
  rw [Sem.run_bind, run_eqGuard_agg w .eql T x y C D hg]
  simp only [Result.andThen_ok, run_eql_struct, h]
theorem run_neq_op (hg : P.eqGuardType P.depth T = false) (x y : Operand) (h : ∀ w, (Op.equalIn 10000 T (.agg C) (.agg D)).run P w = .ok r w) : ∀ w, (do eqGuard .neq T x y (.agg C) (.agg D); binOp .neq T (.agg C) (.agg D) : Sem Value).run P w = .ok (.bool (!r)) w := by
  intro w
  rw [Sem.run_bind, run_eqGuard_agg w .neq T x y C D hg]
  simp only [Result.andThen_ok, run_neq_struct, h]
theorem exec_bin {op : BinOp} {ty : TypeId} {v1 v2 v : Value} {ρ : Operand → Value} {o : Oper} {x y : Operand} (ho : o.op = .binOp op T x y ty) (hx : ρ x = v1) (hy : ρ y = v2) (hr : ∀ w, (do eqGuard op T x y v1 v2; binOp op T v1 v2 : Sem Value).run P w = .ok v w) (w : World) :
    (execOp ρ o).run P w = .ok (.value v) w := by
  have := hr w
  unfold execOp
  simp only [ho, hx, hy]
  generalize (do eqGuard op T x y v1 v2; binOp op T v1 v2 : Sem Value) = s at this
  simp only [Sem.run_bind, this, Result.andThen_ok, Sem.run_pure]
end
end Go.Cit

/- Whole arrays, rows of any elements in a region told by kind; guarded operations. No condition. -/
namespace Go.Cit
open Go Go.RowKit

theorem Vec.grow {α : Type} {f : α → List Value} {n : Nat} {w w' : World} {a : Option Addr} {l : List α} {cap : Nat} (h : Vec f n w a l cap) (hf : ∀ x, (f x).length = n) (g : Grow w w') : Vec f n w' a l cap := by
  refine ⟨h.le, h.top, h.nil, h.spot, fun i hi j hj => ?_⟩
  have := h.cell i hi j hj
  have hj' : j < (f l[i]).length := by rw [hf]; exact hj
  rw [List.getElem?_eq_getElem hj'] at this ⊢
  exact g.cell _ _ this
/-- A slice of m elements that reads as l. -/
def tyVec {α : Type} (f : α → List Value) (n : Nat) (hf : ∀ x, (f x).length = n) (l : List α) (m : Nat) : Ty :=
  .pr (fun v w => ∃ a c, v = .slice a m c ∧ Vec f n w a l c) (fun _ _ _ g ⟨a, c, h, k⟩ => ⟨a, c, h, k.grow hf g⟩)

section
variable {P : Program} {B : Nat} {w w' : World} {t : Ty} {o : Oper} {ρ : Operand → Value}
theorem exec_loadB {T E : TypeId} {n b : Nat} {C : Array Value} {fr : Nat × Nat} (hT : RowType P T n) (x : Operand) (ho : o.op = .load T x) (hx : ρ x = .pointer (some ⟨b, 0, none⟩)) (hb : w.heap[b]? = some (.cells C E fr)) (hn : C.size = n) :
    (execOp ρ o).run P w = .ok (.value (.agg C)) w := by
  obtain ⟨⟨d, hu, hd⟩, hi⟩ := hT
  have hr := run_loadB (P := P) hu hd (by rw [hi, hn]) hb
  unfold execOp
  simp only [ho, hx, Sem.run_bind, Instr.loadAt, Instr.sureAddr, Sem.run_pure, Result.andThen, hr]
theorem g_loadB {T E : TypeId} {n b : Nat} {C : Array Value} {fr : Nat × Nat} (hT : RowType P T n) (x : Operand) (ho : o.op = .load T x) (hx : ρ x = .pointer (some ⟨b, 0, none⟩)) (hb : w.heap[b]? = some (.cells C E fr)) (hn : C.size = n)
    (hv : t.ok (.agg C) w) : Gives P B w t ((execOp ρ o).run P w) := by
  rw [exec_loadB hT x ho hx hb hn]
  exact ⟨Below.refl _ _, Grow.refl _, hv⟩
/-- An operation that yields a value and leaves the world. -/
theorem g_value (v : Value) (hrun : (execOp ρ o).run P w = .ok (.value v) w) (hv : t.ok v w) : Gives P B w t ((execOp ρ o).run P w) := by
  rw [hrun]; exact ⟨Below.refl _ _, Grow.refl _, hv⟩
end
section
variable {P : Program} {ops : Array Oper} {rest : List Oper} {o : Oper} {act : Act} {w w' : World} {Q : Exit → Act → World → Prop}
theorem wpList_value_gd {v : Value} (hgd : Region.wanted o (yielded ops act.tmps) = true) (hr : (execOp act.eval o).run P w = .ok (.value v) w')
    (h : wpList P ops Q rest (act.put o.dst v) w') : wpList P ops Q (o :: rest) act w := by
  unfold wpList
  rw [if_pos hgd]
  left
  unfold Oper.wp
  rw [hr]
  exact h
end
end Go.Cit

/- The reference's Print; a state as a row, compared with a row (the statements' own): walked. -/
namespace Go.Proofs.YtofagofpeedfcaaGreat
open Go Go.RowKit Go.Cit

theorem ArrB.stay {T w w' b l} (h : ArrB T w b l) (hs : Below w.heap.size w w') : ArrB T w' b l := (hs.block b h.lt).trans h
theorem row4_len : ∀ x : UInt32, (rowB (qOfW x) 4).length = 4 := fun _ => rowB_length _ _
theorem printB_len (s : S8) : (printB s).length = 32 := by unfold printB; rw [flatLen row4_len]; rfl
theorem printB_get (s : S8) (k j : Nat) (hk : k < 8) (hj : j < 4) : (printB s)[4 * k + j]? = (rowB (qOfW (s.l[k]'(by simpa [S8.l] using hk))) 4)[j]? := by
  unfold printB
  rw [Nat.mul_comm]
  exact flatGet row4_len s.l k j (by simpa [S8.l] using hk) hj
theorem arrB_index {T : TypeId} {n : Nat} (hT : Tryz.prog.underlying T = some (.array n 5)) (b i : Nat) (hi : i < n) (w : World) :
    (Instr.indexAt T (.pointer (some ⟨b, 0, none⟩)) (.int .i64 (i : Int))).run Tryz.prog w = .ok (.pointer (some ⟨b, i, none⟩)) w := by
  have he : Tryz.prog.elem T = 5 := by simp [Program.elem, hT]
  have hl : Tryz.prog.arrayLen T = n := by simp [Program.arrayLen, hT]
  rw [run_indexAt_array _ _ _ _ _ (by rw [he, hl]; exact hT), hl, he, szB]
  rw [if_pos (by omega)]
  simp only [Result.andThen, Addr.add]
  by_cases h0 : i = 0
  · subst h0; simp
  · simp [h0]
/-- The first m bytes are those of L. -/
def upto (L : List UInt8) (n m : Nat) : List UInt8 := L.take m ++ List.replicate (n - m) 0
theorem upto_set (L : List UInt8) (n m : Nat) (hL : L.length = n) (hm : m < n) : (upto L n m).set m (L[m]'(by omega)) = upto L n (m + 1) := by
  unfold upto
  have hl : (L.take m).length = m := by rw [List.length_take]; omega
  rw [List.set_append_right _ _ (by omega), hl, Nat.sub_self]
  obtain ⟨d, hd⟩ : ∃ d, n - m = d + 1 := ⟨n - m - 1, by omega⟩
  rw [hd, List.replicate_succ, List.set_cons_zero, List.take_succ_eq_append_getElem (by omega), show n - (m + 1) = d by omega, List.append_assoc]
  rfl
theorem upto_len (L : List UInt8) (n m : Nat) (hL : L.length = n) (hm : m ≤ n) : (upto L n m).length = n := by
  unfold upto; rw [List.length_append, List.length_take, List.length_replicate]; omega
theorem upto_full (L : List UInt8) (n : Nat) (hL : L.length = n) : upto L n n = L := by
  unfold upto; rw [Nat.sub_self, List.replicate_zero, List.append_nil, List.take_of_length_le (by omega)]

set_option maxRecDepth 100000 in
set_option maxHeartbeats 2000000 in
theorem refprint_calls (w : World) (a0 : Option Addr) (s : S8) (c0 : Nat) (hs : Vec cw 1 w a0 s.l c0) :
    Calls Tryz.prog 42 #[.slice a0 8 c0] w fun e w' => e = .returned (.agg ((printB s).map vb).toArray) ∧ Below w.heap.size w w' := by
  have HA := Lib.hid (fun ρ d ty ps af w => alloc_tag ρ d ty ps (af := af) w)
  obtain ⟨Z, hZ⟩ : ∃ Z, Hid (Z = ((List.replicate 32 (0 : UInt8)).map vb).toArray) := ⟨_, rfl⟩
  rw [← hZ.out] at HA
  have HZ : Hid (Z.size = 32) := by rw [Hid, hZ.out]; simp
  obtain ⟨L, hL⟩ : ∃ L, Hid (L = printB s) := ⟨_, rfl⟩
  have HLL : Hid (L.length = 32) := by rw [Hid, hL.out, printB_len]
  have b0 := heap_alloc_new w (.cells Z 54)
  have b1 := heap_alloc_new (w.alloc (.cells Z 54)) (.cells Z 54)
  rw [World.size_alloc] at b1
  have b0 := (Below.heap_alloc (w.alloc (.cells Z 54)) (.cells Z 54) w.heap.size (by simp)).trans b0
  have gB : Below w.heap.size w ((w.alloc (.cells Z 54)).alloc (.cells Z 54)) := ((Below.refl _ _).alloc (Nat.le_refl _) _).alloc (by simp) _
  have A1 : ArrB 54 ((w.alloc (.cells Z 54)).alloc (.cells Z 54)) (w.heap.size + 1) (upto L 32 0) := by
    rw [hZ.out] at b1; rw [hZ.out]; exact b1
  have HB := Lib.hid (And.intro b0 (And.intro A1 gB))
  clear b0 b1 gB A1
  go_enter Tryz.func42, Tryz.ntmps42
  go_wp2_with (first
    | ((with_reducible refine wpList_value (o := ⟨some 2, .alloc _, _, _, _, _⟩) (by with_unfolding_all rfl) (HA.out _ _ _ _ _ _) ?_))
    | ((with_reducible refine wpList_value (o := ⟨some 3, .alloc _, _, _, _, _⟩) (by with_unfolding_all rfl) (HA.out _ _ _ _ _ _) ?_)))
  obtain ⟨b0, A1, gB⟩ := HB.out
  go_loopw [4] (fun i wr => ∃ (k : Nat), k ≤ 8 ∧ i = .int .i64 k ∧ ArrB 54 wr (w.heap.size + 1) (upto L 32 (4 * k)) ∧ wr.heap[w.heap.size]? = some (.cells Z 54 (0, 0)) ∧ Below w.heap.size w wr) (fun i _ => 8 - (intOf i).toNat)
  case atStart => exact ⟨0, by omega, rfl, A1, b0, gB⟩
  case round =>
    clear b0 A1 gB
    obtain ⟨k, hk, rfl, A1, b0, B⟩ := hrel
    by_cases hlt : k < 8
    · have d1 : decide ((k : Int) < 8) = true := by simp; omega
      have hsr := hs.stay cw_len B
      have ik := hsr.index1 wordsT k (by simpa [S8.l] using hlt)
      have ek := hsr.cell1 k (by simpa [S8.l] using hlt)
      have HG : Hid (∀ j (hj : j < 4), (rowB (qOfW (s.l[k]'(by simpa [S8.l] using hlt))) 4)[j]? = L[4 * k + j]?) := fun j hj => by rw [hL.out, printB_get s k j hlt hj]
      obtain ⟨x, hx⟩ : ∃ x, s.l[k]'(by simpa [S8.l] using hlt) = x := ⟨_, rfl⟩
      rw [hx] at ek HG
      change ∀ w, (Instr.indexAt 79 (.slice a0 8 c0) (.int .i64 (k : Int))).run Tryz.prog w = _ at ik
      have HP := Lib.hid (refput_calls wr (qOfW x) 4 (by decide))
      clear hx hsr
      go_wp2_with fail
      refine HP.out.mono ?_
      rintro e w3 ⟨ar, cr, rfl, hO, hb3⟩
      have A3 := A1.stay hb3
      have b3 := (hb3.block _ (Array.getElem?_eq_some_iff.1 b0).1).trans b0
      have B3 := B.trans (hb3.mono B.size)
      have hz3 : w.heap.size + 2 ≤ w3.heap.size := A3.lt
      have hbz : w.heap.size + 2 ≤ wr.heap.size := A1.lt
      have HR := Lib.hid hO.isRow
      have HRB : Hid (∀ g, Go.Cit.blk ar = some g → w.heap.size + 2 ≤ g) := fun g hg => by have := (hO.blk_ge hg).1; omega
      clear hO hb3 A1 b0 B
      go_wp2_with fail
      go_loopw [6] (fun i wr => ∃ (j : Nat), j ≤ 4 ∧ i = .int .i64 j ∧ ArrB 54 wr (w.heap.size + 1) (upto L 32 (4 * k + j)) ∧ wr.heap[w.heap.size]? = some (.cells Z 54 (0, 0)) ∧ Below w.heap.size w wr ∧ Row wr ar (rowB (qOfW x) 4) cr) (fun i _ => 4 - (intOf i).toNat)
      case atStart => exact ⟨0, by omega, rfl, A3, b3, B3, HR.out⟩
      case round =>
        clear A3 b3 B3
        obtain ⟨j, hj, rfl, A1, b0, B, R⟩ := hrel
        by_cases hj4 : j < 4
        · have d2 : decide ((j : Int) < 4) = true := by simp; omega
          have iA : ∀ W, (Instr.indexAt 54 (.pointer (some ⟨w.heap.size + 1, 0, none⟩)) (.int .i64 (4 * (k : Int) + (j : Int)))).run Tryz.prog W = .ok (.pointer (some ⟨w.heap.size + 1, 4 * k + j, none⟩)) W := fun W => by
            have := arrB_index (T := 54) (n := 32) Tryz.underlying54 (w.heap.size + 1) (4 * k + j) (by omega) W
            rwa [show ((4 * k + j : Nat) : Int) = 4 * (k : Int) + (j : Int) by omega] at this
          have ir := R.index bt.slice bt.sz j (by rw [rowB_length]; exact hj4)
          have er := R.cell j (by rw [rowB_length]; exact hj4)
          rw [rowB_length] at ir
          have hgj := HG.out j hj4
          have hm : 4 * k + j < L.length := by rw [HLL.out]; omega
          rw [List.getElem?_eq_getElem (by rw [rowB_length]; exact hj4), List.getElem?_eq_getElem hm] at hgj
          injection hgj with hgj
          rw [hgj] at er
          obtain ⟨y, hy⟩ : ∃ y, L[4 * k + j] = y := ⟨_, rfl⟩
          rw [hy] at er
          have HUL := upto_len L 32 (4 * k + j) HLL.out (by omega)
          have c1 := A1.cell (4 * k + j) (by rw [HUL]; omega)
          obtain ⟨v1, hv1⟩ : ∃ v, (upto L 32 (4 * k + j))[4 * k + j]'(by rw [HUL]; omega) = v := ⟨_, rfl⟩
          rw [hv1] at c1
          have f1 := A1.free (4 * k + j)
          have HS : Hid (ArrB 54 (wr.setCell ⟨w.heap.size + 1, 4 * k + j, none⟩ (vb y)) (w.heap.size + 1) (upto L 32 (4 * k + (j + 1)))) := by
            have := A1.set (4 * k + j) y
            rwa [← hy, upto_set L 32 (4 * k + j) HLL.out (by omega), hy] at this
          have hsv : Save (· ≠ w.heap.size + 1) wr (wr.setCell ⟨w.heap.size + 1, 4 * k + j, none⟩ (vb y)) := Save.set
          have HN : Hid ((wr.setCell ⟨w.heap.size + 1, 4 * k + j, none⟩ (vb y)).heap[w.heap.size]? = some (.cells Z 54 (0, 0))) := (hsv.block _ (Array.getElem?_eq_some_iff.1 b0).1 (by omega)).trans b0
          have HB2 := Lib.hid (B.setCell (p := ⟨w.heap.size + 1, 4 * k + j, none⟩) (by show w.heap.size ≤ w.heap.size + 1; omega) (vb y))
          have HR2 := Lib.hid (R.save hsv (fun g hg => by have := HRB.out g hg; omega))
          clear hgj hy HUL hv1 hsv hm
          go_wp2_with fail
          go_roundw
          case rel => exact ⟨j + 1, by omega, by go_num, HS.out, HN.out, HB2.out, HR2.out⟩
          case measure => simp [intOf]; omega
        · obtain rfl : j = 4 := by omega
          go_wp2_with fail
          go_roundw
          case rel => exact ⟨k + 1, by omega, by go_num, by rw [show 4 * (k + 1) = 4 * k + 4 by omega]; exact A1, b0, B⟩
          case measure => simp [intOf]; omega
    · have hk2 : k = 8 := by omega
      have d1 : decide ((k : Int) < 8) = false := by simp; omega
      have HL1 : Hid ((L.map vb).toArray.size = 32) := by rw [Hid]; simpa using HLL.out
      have HO := Lib.hid (arrB_ok L)
      have HA1 : Hid (wr.heap[w.heap.size + 1]? = some (.cells (L.map vb).toArray 54 (0, 0))) := by
        rw [hk2, show 4 * 8 = 32 by rfl, upto_full L 32 HLL.out] at A1; exact A1
      have HA0 := Lib.hid b0
      obtain ⟨F, hF⟩ : ∃ F, Hid (F = (L.map vb).toArray) := ⟨_, rfl⟩
      rw [← hF.out] at HL1 HO HA1
      clear hk2 A1 b0
      go_wp2_with (first
        | ((with_reducible refine wpList_loadB (o := ⟨some 30, .load _ _, _, _, _, _⟩) row_tag (.tmp 3) (by with_unfolding_all rfl) (by with_unfolding_all rfl) (by with_unfolding_all rfl) HA1.out HL1.out ?_))
        | ((with_reducible refine wpList_storeB (o := ⟨none, .store _ (.tmp 2) (.tmp 30), _, _, _, _⟩) row_tag (.tmp 2) (.tmp 30) (by with_unfolding_all rfl) (by with_unfolding_all rfl) (by with_unfolding_all rfl) (by with_unfolding_all rfl) (by with_unfolding_all rfl) HA0.out HZ.out HL1.out HO.out ?_); intro w4 hb4 hS4))
      refine bodyPost_ret (resB1 row_tag rfl rfl hb4 HL1.out) rfl ⟨by rw [hF.out, hL.out], ?_⟩
      exact B.trans (hS4.below B.size (fun j hj => by omega))

end Go.Proofs.YtofagofpeedfcaaGreat

