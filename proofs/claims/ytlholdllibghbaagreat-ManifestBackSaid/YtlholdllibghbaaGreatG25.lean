/- Texts of the proof, one behind the other: ArrB, ShaPrint, ShaTail, ShaSum. No condition but those that each names. -/
import Derived.Test.YtlholdllibghbaaGreatG23
import Derived.Test.YtlholdllibghbaaGreatG22
import Derived.Test.YtlholdllibghbaaGreatG21
import Derived.Test.YtlholdllibghbaaGreatG05
import Derived.IntWalk
import Derived.Test.YtlholdllibghbaaGreatG04
import Derived.Test.YtlholdllibghbaaGreatG24
/- Variables that hold an array of bytes; an array's element by its value. -/
namespace Go.Proofs.YtlholdllibghbaaGreat
open Go Go.RowKit Go.Cit

def ArrB (T : TypeId) (w : World) (b : Nat) (l : List UInt8) : Prop := w.heap[b]? = some (.cells (l.map vb).toArray T (0, 0))
theorem ArrB.lt {T w b l} (h : ArrB T w b l) : b < w.heap.size := (Array.getElem?_eq_some_iff.1 h).1
theorem ArrB.cell {T w b l} (h : ArrB T w b l) (i : Nat) (hi : i < l.length) : w.cell? ⟨b, i, none⟩ = some (vb l[i]) := by
  rw [World.cell?, h]; simp [hi]
theorem ArrB.free {T w b l} (h : ArrB T w b l) (i : Nat) : w.frozen? ⟨b, i, none⟩ = false := by simp [World.frozen?, show w.heap[b]? = _ from h]
theorem ArrB.set {T w b l} (h : ArrB T w b l) (i : Nat) (x : UInt8) : ArrB T (w.setCell ⟨b, i, none⟩ (vb x)) b (l.set i x) := by
  unfold ArrB at *
  simp [World.setCell, Array.getElem?_modify, h, List.map_set]
theorem ArrB.save {S : Nat → Prop} {T w w' b l} (h : ArrB T w b l) (hs : Save S w w') (hb : S b) : ArrB T w' b l := (hs.block b h.lt hb).trans h
theorem arrB_ok (l : List UInt8) : (l.map vb).toArray.all (·.oneCell') = true := by simp [Value.oneCell']
theorem ArrB.row {T w b l} (h : ArrB T w b l) (hl : l.length ≤ 1000000000) : Row w (some ⟨b, 0, none⟩) l l.length := row_blk l h rfl hl

theorem arrB_copy {T : TypeId} {b : Nat} : ∀ (m A R : List UInt8) (w : World), ArrB T w b (A ++ R) → m.length ≤ R.length → ArrB T (w.setCells b A.length (m.map vb)) b (A ++ m ++ R.drop m.length) ∧ Save (· ≠ b) w (w.setCells b A.length (m.map vb))
  | [], A, R, w, h, _ => by
    rw [List.append_nil]; exact ⟨h, Save.refl _ _⟩
  | x :: m, A, [], w, h, hl => absurd hl (by simp)
  | x :: m, A, y :: R, w, h, hl => by
    have h1 := h.set A.length x
    rw [List.set_append_right _ _ (Nat.le_refl _), Nat.sub_self, List.set_cons_zero, show A ++ x :: R = (A ++ [x]) ++ R by simp] at h1
    have h2 := arrB_copy m (A ++ [x]) R _ h1 (by simpa using hl)
    rw [List.length_append, List.length_singleton] at h2
    refine ⟨?_, Save.set.trans h2.2⟩
    have := h2.1
    simpa [World.setCells] using this

theorem run_index_agg {P : Program} {T E : TypeId} {n k : Nat} {C : Array Value} (w : World) (hT : P.underlying T = some (.array n E)) (hs : (sizeOf E).run P w = .ok 1 w) (hA : (isAgg E).run P w = .ok false w) (hC : C.size = n) (hk : k < n) :
    (Instr.index T (.agg C) (.int .i64 (k : Int))).run P w = .ok C[k] w := by
  have hk' : (0 : Int) ≤ (k : Int) ∧ (k : Int) < (n : Int) := by omega
  have hkC : k < C.size := by omega
  simp [Instr.index, run_underlying hT, asIntOf, hs, hA, part, go_sem, hkC, hk]
theorem aggW : ∀ w, (isAgg 38).run Tryz.prog w = .ok false w := by intro w; kernel_rfl
theorem szB : ∀ w, (sizeOf 5).run Tryz.prog w = .ok 1 w := by intro w; kernel_rfl
end Go.Proofs.YtlholdllibghbaaGreat

/- sha.Print: walked. -/
namespace Go.Proofs.YtlholdllibghbaaGreat
open Go Go.RowKit Go.Cit

theorem row_tag : RowType Tryz.prog 53 32 := ⟨⟨_, Tryz.underlying53, rfl⟩, by kernel_rfl⟩
theorem salloc_tag (ρ : Operand → Value) (d : Option Tmp) (ty : TypeId) (ps : String) {af} (w : World) :
    (execOp ρ { dst := d, op := Op.alloc 53, type := ty, pos := ps, after := af, guard := none }).run Tryz.prog w = .ok (.value (.pointer (some ⟨w.heap.size, 0, none⟩))) (w.alloc (.cells ((List.replicate 32 (0 : UInt8)).map vb).toArray 53)) := by
  kernel_rfl
theorem tag_from (g k : Nat) (hk : k < 8) (w : World) : (Instr.sliceAt 53 (.pointer (some ⟨g, 0, none⟩)) (some (.int .i64 ((4 * k : Nat) : Int))) none none).run Tryz.prog w = .ok (.slice (some ⟨g, 4 * k, none⟩) (32 - 4 * k) (32 - 4 * k)) w := by
  have hT : Tryz.prog.underlying 53 = some (.array 32 5) := Tryz.underlying53
  have he : Tryz.prog.elem 53 = 5 := by simp [Program.elem, hT]
  have hl : Tryz.prog.arrayLen 53 = 32 := by simp [Program.arrayLen, hT]
  rw [run_sliceAt_array_l _ _ _ (by rw [he, hl]; exact hT) _ _ (by omega) (by rw [hl]; omega), he, szB, hl]
  have e : ((4 * k : Nat) : Int).toNat = 4 * k := by omega
  simp only [Result.andThen, slicedAt, e, if_neg (show ¬ 32 = 4 * k by omega), Addr.add]
  by_cases h0 : k = 0
  · subst h0; simp
  · simp; omega
def prB (l : List UInt32) (k : Nat) : List UInt8 := (l.take k).flatMap fun x => rowB (qOfW x) 4
theorem prB_length (l : List UInt32) (k : Nat) (hk : k ≤ l.length) : (prB l k).length = 4 * k := by
  induction k with
  | zero => rfl
  | succ k ih =>
    have := ih (by omega)
    unfold prB at *
    rw [List.take_succ_eq_append_getElem (by omega), List.flatMap_append, List.length_append, this]
    simp [rowB_length]; omega
theorem prB_next (l : List UInt32) (k : Nat) (hk : k < l.length) : prB l k ++ rowB (qOfW l[k]) 4 = prB l (k + 1) := by
  unfold prB
  rw [List.take_succ_eq_append_getElem hk, List.flatMap_append]
  simp

def printC (g : Nat) (W : World) (l l' : List UInt8) (δ : Nat → Bool) (_ : Act) (wx : World) : Prop :=
  (δ 5 = false → Below W.heap.size W wx) ∧ Save (· ≠ g) W wx ∧ ArrB 53 wx g (if δ 5 then l' else l)
def printT (n0 g k : Nat) (x : UInt32) : Nat → Value → World → Prop
  | 11, v, _ => v = .int .i64 (k : Int)
  | 12, v, _ => v = .int .i64 ((4 * k : Nat) : Int)
  | 13, v, _ => v = .slice (some ⟨g, 4 * k, none⟩) (32 - 4 * k) (32 - 4 * k)
  | 14, v, _ => v = vw x
  | 15, v, w => ∃ a c, v = .slice a 4 c ∧ Go.Cit.Own 5 n0 w a (rowB (qOfW x) 4) c
  | 16, v, _ => v = .int .i64 4
  | _, _, _ => True
theorem printT_stay {n0 g k : Nat} {x : UInt32} {d : Nat} {v : Value} {w w' : World} (hs : Save (· ≠ g) w w') (hg : g < n0) (h : printT n0 g k x d v w) : printT n0 g k x d v w' := by
  unfold printT at *
  split at h <;> try (simp_all; done)
  obtain ⟨a, c, e, ho⟩ := h
  exact ⟨a, c, e, ho.save hs (fun b hb => by have := (ho.blk_ge hb).1; omega)⟩
theorem printC_pure {g : Nat} {W : World} {l l' : List UInt8} {δ : Nat → Bool} {a a' : Act} {wx w' : World} (h : printC g W l l' δ a wx) (hb : Below wx.heap.size wx w') {i : Nat} (hi : i ≠ 5) : printC g W l l' (upd δ i) a' w' := by
  obtain ⟨h1, h2, h3⟩ := h
  refine ⟨fun h => ?_, h2.trans (Save.of hb), ?_⟩
  · rw [upd_other δ hi] at h
    exact (h1 h).trans (hb.mono (h1 h).size)
  · rw [upd_other δ hi]
    exact h3.save (S := fun _ => True) (Save.of hb) trivial

set_option maxRecDepth 100000 in
set_option maxHeartbeats 4000000 in
theorem sprint_calls (w : World) (s : S8) :
    Calls Tryz.prog 118 #[.agg (s.l.map vw).toArray] w fun e w' => e = .returned (.agg ((sprintB s).map vb).toArray) ∧ Below w.heap.size w w' := by
  have HA := Lib.hid (fun ρ d ty ps af w => salloc_tag ρ d ty ps (af := af) w)
  obtain ⟨Y, hY⟩ : ∃ Y, Hid (Y = ((List.replicate 32 (0 : UInt8)).map vb).toArray) := ⟨_, rfl⟩
  obtain ⟨S, hS⟩ : ∃ S, Hid (S = (s.l.map vw).toArray) := ⟨_, rfl⟩
  rw [← hY.out] at HA
  rw [← hS.out]
  have HY : Hid (Y.size = 32) := by rw [Hid, hY.out]; simp
  have HSs : Hid (S.size = 8) := by rw [Hid, hS.out]; simp [S8.l]
  have hsl : s.l.length = 8 := rfl
  have HSL := Lib.hid hsl
  clear hsl
  go_enter Tryz.func118, Tryz.ntmps118
  have hsz : (((w.alloc (.cells S 158)).alloc (.cells Y 53)).alloc (.cells Y 53)).heap.size = w.heap.size + 3 := by simp
  have B0 : Below w.heap.size w (((w.alloc (.cells S 158)).alloc (.cells Y 53)).alloc (.cells Y 53)) := (((Below.refl _ w).alloc (Nat.le_refl _) _).alloc (by simp) _).alloc (by simp; omega) _
  have b0 : (((w.alloc (.cells S 158)).alloc (.cells Y 53)).alloc (.cells Y 53)).heap[w.heap.size]? = some (.cells S 158 (0, 0)) :=
    (Below.heap_alloc _ _ _ (by simp; omega)).trans ((Below.heap_alloc _ _ _ (by simp)).trans (heap_alloc_new w _))
  have b1 : (((w.alloc (.cells S 158)).alloc (.cells Y 53)).alloc (.cells Y 53)).heap[w.heap.size + 1]? = some (.cells Y 53 (0, 0)) := by
    refine (Below.heap_alloc _ _ _ (by simp)).trans ?_
    have := heap_alloc_new (w.alloc (.cells S 158)) (.cells Y 53)
    rwa [World.size_alloc] at this
  have b2 : (((w.alloc (.cells S 158)).alloc (.cells Y 53)).alloc (.cells Y 53)).heap[w.heap.size + 2]? = some (.cells Y 53 (0, 0)) := by
    have := heap_alloc_new ((w.alloc (.cells S 158)).alloc (.cells Y 53)) (.cells Y 53)
    rwa [World.size_alloc, World.size_alloc] at this
  have HLB := Lib.hid (And.intro hsz (And.intro B0 (And.intro b0 (And.intro b1 b2))))
  clear hsz B0 b0 b1 b2
  go_wp2_with (first
    | ((with_reducible refine wpList_boxB (o := ⟨some 1, .box _ (.tmp 0), _, _, _, _⟩) (.tmp 0) (by with_unfolding_all rfl) (by with_unfolding_all rfl) (by with_unfolding_all rfl) ?_))
    | ((with_reducible refine wpList_value (o := ⟨some 2, .alloc _, _, _, _, _⟩) (by with_unfolding_all rfl) (HA.out _ _ _ _ _ _) ?_))
    | ((with_reducible refine wpList_value (o := ⟨some 3, .alloc _, _, _, _, _⟩) (by with_unfolding_all rfl) (HA.out _ _ _ _ _ _) ?_))
    | ((with_reducible refine wpList_loadB (o := ⟨some 6, .load _ _, _, _, _, _⟩) row_state (.tmp 1) (by with_unfolding_all rfl) (by with_unfolding_all rfl) (by with_unfolding_all rfl) HLB.out.2.2.1 HSs.out ?_)))
  obtain ⟨hsz, B0, b0, b1, b2⟩ := HLB.out
  clear HLB
  generalize (((w.alloc (.cells S 158)).alloc (.cells Y 53)).alloc (.cells Y 53)) = W at hsz B0 b0 b1 b2 ⊢
  have A2 : ArrB 53 W (w.heap.size + 2) (prB s.l 0 ++ List.replicate (32 - 4 * 0) 0) := by rw [hY.out] at b2; exact b2
  have HB1 := Lib.hid b1
  clear b0 b1 b2
  go_loopw [7] (fun i wr => ∃ (k : Nat), k ≤ 8 ∧ i = .int .i64 k ∧ ArrB 53 wr (w.heap.size + 2) (prB s.l k ++ List.replicate (32 - 4 * k) 0) ∧ Save (· ≠ w.heap.size + 2) W wr) (fun i _ => 8 - (intOf i).toNat)
  case atStart => exact ⟨0, Nat.zero_le _, rfl, A2, Save.refl _ _⟩
  case round =>
    clear A2
    obtain ⟨k, hk, rfl, AX, hsv⟩ := hrel
    by_cases hlt : k < 8
    · have d1 : decide ((k : Int) < 8) = true := by simp; omega
      have hks : k < s.l.length := by rw [HSL.out]; exact hlt
      have ia : ∀ W, (Instr.index 158 (.agg S) (.int .i64 (k : Int))).run Tryz.prog W = .ok (vw s.l[k]) W := by
        intro W
        have := run_index_agg (T := 158) (C := S) W Tryz.underlying158 (szW W) (aggW W) HSs.out hlt
        rw [this]
        congr 1
        have e := hS.out
        subst e
        simp
      have HNX := Lib.hid (prB_next s.l k hks)
      generalize s.l[k] = x at ia HNX
      have hwr := hsv.size
      go_wp2_with fail
      have hPL := prB_length s.l k (by rw [HSL.out]; omega)
      refine wp_region_st (printC (w.heap.size + 2) wr (prB s.l k ++ List.replicate (32 - 4 * k) 0) (prB s.l (k + 1) ++ List.replicate (32 - 4 * (k + 1)) 0)) (fun _ wx w' => Save (· ≠ w.heap.size + 2) wx w') (printT wr.heap.size (w.heap.size + 2) k x) (by kernel_rfl) (by kernel_rfl) ?_ ?_ ?_ ?_
      · intro w' hb hh
        exact ⟨fun _ => hb, Save.of hb, AX.save (S := fun _ => True) (Save.of hb) trivial⟩
      · intro δ i j o v a w1 w2 _ _ _ _ _ _ hG h
        rcases hd : o.dst with _ | d
        · exact tyP_none hd _ _
        · rw [tyP_some hd] at h ⊢
          exact printT_stay hG (by omega) h
      · refine opsAll_cons ?_ (opsAll_cons ?_ (opsAll_cons ?_ (opsAll_cons ?_ (opsAll_cons ?_ (opsAll_cons ?_ opsAll_nil)))))
        all_goals intro δ wa wx hk
        · exact ⟨wanted_free rfl, gp_move (.tmp 4) rfl ⟨Save.refl _ _, printC_pure hk.inv (Below.refl _ _) (by decide), hk.old 4 (by kernel_rfl)⟩⟩
        · exact ⟨wanted_free rfl, gp_bin rfl (hk.lit _) (hk.slot 11 (by kernel_rfl)) (v := .int .i64 ((4 * k : Nat) : Int)) (fun w => by
            have e : IntKind.i64.wrap (4 * (k : Int)) = ((4 * k : Nat) : Int) := by rw [show (4 : Int) * (k : Int) = ((4 * k : Nat) : Int) by omega]; exact IntWalk.i64_in _ (by omega)
            go_simp
            try rw [e]) ⟨Save.refl _ _, printC_pure hk.inv (Below.refl _ _) (by decide), rfl⟩⟩
        · exact ⟨wanted_free rfl, gp_slice' rfl (hk.old 3 (by kernel_rfl)) (congrArg some (show wa.eval (.tmp 12) = _ from hk.slot 12 (by kernel_rfl))) rfl rfl (tag_from (w.heap.size + 2) k hlt wx) ⟨Save.refl _ _, printC_pure hk.inv (Below.refl _ _) (by decide), rfl⟩⟩
        · exact ⟨wanted_free rfl, gp_move (.tmp 5) rfl ⟨Save.refl _ _, printC_pure hk.inv (Below.refl _ _) (by decide), hk.old 5 (by kernel_rfl)⟩⟩
        · refine ⟨wanted_free rfl, gp_call rfl (hk.fn _) #[vw x] (fun w => by kernel_rfl) (by simp [show wa.eval (.tmp 14) = _ from hk.slot 14 (by kernel_rfl)]) ((put32_calls wx x).mono ?_)⟩
          rintro e w' ⟨a, c, rfl, ho, hb⟩
          have := (hk.inv.1 (hk.closed.yet 8 5 4 (by kernel_rfl) hk.yet)).size
          exact ⟨_, rfl, Save.of hb, printC_pure hk.inv hb (by decide), a, c, rfl, ho.low this⟩
        · obtain ⟨h1, h2, h3⟩ := hk.inv
          rw [hk.yet] at h3
          obtain ⟨a, c, e15, ho⟩ := hk.slot 15 (by kernel_rfl)
          have hrow := ho.isRow
          obtain ⟨ab, ao, rfl⟩ := hrow.spot (by intro h0; have := congrArg List.length h0; rw [rowB_length] at this; simp at this)
          have hm4 : (rowB (qOfW x) 4).length = 4 := rowB_length _ _
          have hcp := arrB_copy (rowB (qOfW x) 4) (prB s.l k) (List.replicate (32 - 4 * k) 0) wx h3 (by rw [hm4, List.length_replicate]; omega)
          rw [hPL, HNX.out, hm4, List.drop_replicate, show 32 - 4 * k - 4 = 32 - 4 * (k + 1) by omega] at hcp
          have hrun := run_copy_cells (P := Tryz.prog) wx 40 40 3 5 (w.heap.size + 2) (4 * k) (32 - 4 * k) (32 - 4 * k) ⟨ab, ao, none⟩ 4 c ((rowB (qOfW x) 4).map vb) Tryz.underlying40 (by kernel_rfl) (by rw [List.length_map, hm4]; show 4 = min 4 (32 - 4 * k); omega)
            (news_row hrow) (fun j hj => by
              rw [List.length_map, hm4] at hj
              rw [h3.cell (4 * k + j) (by simp [hPL]; omega)]; rfl)
            (fun j _ => h3.free _) (fun v hv => by obtain ⟨y, _, rfl⟩ := List.mem_map.1 hv; rfl)
          rw [List.length_map, hm4] at hrun
          refine ⟨wanted_free rfl, gp_copy (.tmp 13) (.tmp 15) rfl (hk.slot 13 (by kernel_rfl)) e15 hrun ⟨hcp.2, ⟨fun h => absurd h (by rw [upd_same]; decide), h2.trans hcp.2, by rw [upd_same]; exact hcp.1⟩, rfl⟩⟩
      intro δ wa wx hall hC hsame hT
      obtain ⟨_, hSv, hcE⟩ := hC
      rw [hall 5 (by decide), if_pos rfl] at hcE
      obtain ⟨a15, c15, e15, _⟩ := hT 15 (by kernel_rfl)
      have he := act_same hsame [11, 12, 13, 14, 15, 16] (by kernel_rfl)
      simp only [List.foldl_cons, List.foldl_nil] at he
      rw [show wa.eval (.tmp 11) = _ from hT 11 (by kernel_rfl), show wa.eval (.tmp 12) = _ from hT 12 (by kernel_rfl), show wa.eval (.tmp 13) = _ from hT 13 (by kernel_rfl), show wa.eval (.tmp 14) = _ from hT 14 (by kernel_rfl), e15, show wa.eval (.tmp 16) = _ from hT 16 (by kernel_rfl)] at he
      subst he
      have HCE := Lib.hid hcE
      have HSV := Lib.hid (hsv.trans hSv)
      clear hT hsame hall hcE hSv hsv AX hPL e15
      go_wp2_with fail
      go_roundw
      case rel => exact ⟨k + 1, by omega, by go_num, HCE.out, HSV.out⟩
      case measure => simp [intOf]; omega
    · have hk2 : k = 8 := by omega
      have d1 : decide ((k : Int) < 8) = false := by simp; omega
      obtain ⟨E, hE⟩ : ∃ E, Hid (E = ((sprintB s).map vb).toArray) := ⟨_, rfl⟩
      have hpl : (sprintB s).length = 32 := prB_length s.l 8 (Nat.le_refl 8)
      have HE1 : Hid (E.size = 32) := by rw [Hid, hE.out]; simp [hpl]
      have HEO : Hid (E.all (·.oneCell') = true) := by rw [Hid, hE.out]; exact arrB_ok _
      have HA1 : Hid (wr.heap[w.heap.size + 2]? = some (.cells E 53 (0, 0))) := by
        rw [Hid, hE.out]; rw [hk2] at AX
        have e : prB s.l 8 = sprintB s := rfl
        rw [e, show 32 - 4 * 8 = 0 from rfl, List.replicate_zero, List.append_nil] at AX
        exact AX
      have HA6 : Hid (wr.heap[w.heap.size + 1]? = some (.cells Y 53 (0, 0))) := (hsv.block _ (by omega) (by omega)).trans HB1.out
      clear hk2 AX
      go_wp2_with (first
        | ((with_reducible refine wpList_loadB (o := ⟨some 18, .load _ _, _, _, _, _⟩) row_tag (.tmp 3) (by with_unfolding_all rfl) (by with_unfolding_all rfl) (by with_unfolding_all rfl) HA1.out HE1.out ?_))
        | ((with_reducible refine wpList_storeB (o := ⟨none, .store _ (.tmp 2) (.tmp 18), _, _, _, _⟩) row_tag (.tmp 2) (.tmp 18) (by with_unfolding_all rfl) (by with_unfolding_all rfl) (by with_unfolding_all rfl) (by with_unfolding_all rfl) (by with_unfolding_all rfl) HA6.out HY.out HE1.out HEO.out ?_); intro w4 hb4 hS4))
      refine bodyPost_ret (resB1 row_tag rfl rfl hb4 HE1.out) rfl ⟨by rw [hE.out], ?_⟩
      have h1 := B0.size
      have h2 := hsv.size
      exact B0.trans (((hsv.below (B := w.heap.size) (by omega) (fun j hj => by omega))).trans (hS4.below (by omega) (fun j hj => by omega)))
end Go.Proofs.YtlholdllibghbaaGreat

/- sha.Tail: walked. -/
namespace Go.Proofs.YtlholdllibghbaaGreat
open Go Go.RowKit Go.Cit

theorem holds_stay {w w' : World} {v : Value} {l : List UInt8} (h : Lib.HoldsBytes w v l) (hb : Below w.heap.size w w') : Lib.HoldsBytes w' v l := by
  obtain ⟨p, cap, e, h1, h2⟩ := h
  refine ⟨p, cap, e, h1, fun a ha j x hx => ?_⟩
  have hc := h2 a ha j x hx
  exact (hb.cell (World.block_lt_of_cell? w _ hc)).trans hc
theorem parts_stay {w w' : World} {p : Addr} {vs : List Value} {ls : List (List UInt8)} (h : Lib.PartsAt w p vs ls) (hb : Below w.heap.size w w') : Lib.PartsAt w' p vs ls := by
  obtain ⟨x, y, z⟩ := h
  exact ⟨x, fun i v hv => (hb.cell (World.block_lt_of_cell? w _ (y i v hv))).trans (y i v hv), fun i v l hv hl => holds_stay (z i v l hv hl) hb⟩

theorem sgp_make {P : Program} {T E : TypeId} (hBT : ByteTypes P T E) {w : World} {o : Oper} {ρ : Operand → Value} {post : Value → World → Prop} (x y : Operand)
    (ho : o.op = .makeSlice T x y) (n : Nat) {k1 k2 : IntKind} (hx : ρ x = .int k1 (n : Int)) (hy : ρ y = .int k2 (n : Int)) (hn : n ≤ 1000000000)
    (h : ∀ w', Go.Cit.Own E w.heap.size w' (some ⟨w.heap.size, 0, none⟩) (List.replicate n 0) n → w.grownBy w' none → post (.slice (some ⟨w.heap.size, 0, none⟩) n n) w') : GivesP P post ((execOp ρ o).run P w) := by
  obtain ⟨i, hi, hz0, hz1, hz2⟩ := info_parts hBT.info
  obtain ⟨w', hr, hown, hgr⟩ := run_make_full (P := P) w w.heap.size T E i (.int .u8 0) 1 hBT.slice hi hz0 hz1 k1 k2 n (by rw [hz2]; omega) (by unfold maxLen; omega) (Nat.le_refl _)
  have e1 : (madeCells (Value.int .u8 0).cells (n * 1)).toList = (List.replicate n (0 : UInt8)).map vb := by
    rw [show (Value.int .u8 0).cells = #[.int .u8 0] from rfl, toList_madeCells_one, Nat.mul_one, List.map_replicate]; rfl
  rw [e1] at hown
  refine gp_run (w' := w') (v := .slice (some ⟨w.heap.size, 0, none⟩) n n) ?_ (h w' ⟨by simpa using hown⟩ hgr)
  unfold execOp
  rw [ho]
  dsimp only
  rw [hx, hy, Sem.run_bind, hr]
  rfl

def tailT (n z : Nat) : Nat → Value → World → Prop
  | 10, v, w => ∃ a c, v = .slice a 1 c ∧ Row w a [128] c
  | 11, v, _ => v = .int .i64 (z : Int)
  | 12, v, w => ∃ a c, v = .slice a z c ∧ Row w a (List.replicate z 0) c
  | 13, v, _ => v = .int .i64 (n : Int)
  | 14, v, _ => v = vq (qOfI n)
  | 15, v, _ => v = vq (qMul (qI 8) (qOfI n))
  | 16, v, w => ∃ a c, v = .slice a 8 c ∧ Row w a (rowB (qMul (qI 8) (qOfI n)) 8) c
  | 17, v, w => ∃ g vs, v = .slice (some ⟨g, 0, none⟩) 3 3 ∧ Lib.PartsAt w ⟨g, 0, none⟩ vs [[128], List.replicate z 0, rowB (qMul (qI 8) (qOfI n)) 8]
  | 18, v, w => ∃ a c, v = .slice a (z + 9) c ∧ Row w a (128 :: (List.replicate z 0 ++ rowB (qMul (qI 8) (qOfI n)) 8)) c
  | 2, v, w => ∃ a c, v = .slice a (z + 9) c ∧ Row w a (128 :: (List.replicate z 0 ++ rowB (qMul (qI 8) (qOfI n)) 8)) c
  | _, _, _ => True
theorem tailT_stay {n z d : Nat} {v : Value} {w w' : World} (hb : Below w.heap.size w w') (h : tailT n z d v w) : tailT n z d v w' := by
  unfold tailT at *
  split at h <;> first
    | exact h
    | (obtain ⟨a, c, e, hr⟩ := h; exact ⟨a, c, e, hr.stay hb⟩)
    | (obtain ⟨a, c, e, hr⟩ := h; exact ⟨a, c, e, parts_stay hr hb⟩)
    | simp_all
theorem build_parts {ρ : Operand → Value} {o : Oper} (x y z : Operand) (h : o.op = .buildSlice 49 3 #[(0, x), (1, y), (2, z)]) {a b c : Option Addr} {l m n p q r : Nat} (hx : ρ x = .slice a l p) (hy : ρ y = .slice b m q) (hz : ρ z = .slice c n r) (wx : World) :
    (execOp ρ o).run Tryz.prog wx = .ok (.value (.slice (some ⟨wx.heap.size, 0, none⟩) 3 3)) (wx.alloc (.cells #[.slice a l p, .slice b m q, .slice c n r] 40)) := by
  unfold execOp
  rw [h]
  dsimp only
  go_simp
theorem build_byte {ρ : Operand → Value} {o : Oper} (x : Operand) (h : o.op = .buildSlice 40 1 #[(0, x)]) {y : UInt8} (hx : ρ x = vb y) (wx : World) :
    (execOp ρ o).run Tryz.prog wx = .ok (.value (.slice (some ⟨wx.heap.size, 0, none⟩) 1 1)) (wx.alloc (.cells #[vb y] 5)) := by
  unfold execOp
  rw [h]
  dsimp only
  go_simp

set_option maxRecDepth 100000 in
set_option maxHeartbeats 4000000 in
theorem tail_calls (w : World) (n : Nat) (hn : n ≤ 1000000000) :
    Calls Tryz.prog 116 #[.int .i64 (n : Int)] w fun e w' => ∃ a c, e = .returned (.slice a (tailB n).length c) ∧ Row w' a (tailB n) c ∧ Below w.heap.size w w' := by
  obtain ⟨z, hz⟩ : ∃ z, Hid (z = (119 - n % 64) % 64) := ⟨_, rfl⟩
  have hz9 : z < 64 := by rw [hz.out]; omega
  have t1 : decide ((n : Int) < 0) = false := by simp
  have e1 : (n : Int).tmod 64 = ((n % 64 : Nat) : Int) := by rw [Int.tmod_eq_emod_of_nonneg (by omega)]; omega
  have e2 : IntKind.i64.wrap (119 - ((n % 64 : Nat) : Int)) = ((119 - n % 64 : Nat) : Int) := by rw [show (119 : Int) - ((n % 64 : Nat) : Int) = ((119 - n % 64 : Nat) : Int) by omega]; exact IntWalk.i64_in _ (by omega)
  go_enter Tryz.func116, Tryz.ntmps116
  go_wp2_with fail
  have hz3 : (119 - (n : Int) % 64) % 64 = (z : Int) := by rw [hz.out]; omega
  rw [hz3]
  have hlen : (tailB n).length = z + 9 := by unfold tailB; rw [← hz.out]; simp [rowB_length]
  have HL := Lib.hid hlen
  have HTB : Hid (128 :: (List.replicate z 0 ++ rowB (qMul (qI 8) (qOfI n)) 8) = tailB n) := by unfold tailB; rw [← hz.out]; rfl
  clear e1 e2 hz3 hlen
  refine wp_region_ph (fun _ wx => Below w.heap.size w wx) (fun _ wx w' => Below wx.heap.size wx w') (tailT n z) (by kernel_rfl) (by kernel_rfl) ?_ ?_ ?_ ?_
  · intro w' hb hh
    exact hb
  · intro δ i j o v w1 w2 _ _ _ _ _ _ hG h
    rcases hd : o.dst with _ | d
    · exact tyP_none hd _ _
    · rw [tyP_some hd] at h ⊢
      exact tailT_stay hG h
  · refine opsAll_cons ?_ (opsAll_cons ?_ (opsAll_cons ?_ (opsAll_cons ?_ (opsAll_cons ?_ (opsAll_cons ?_ (opsAll_cons ?_ (opsAll_cons ?_ (opsAll_cons ?_ (opsAll_cons ?_ opsAll_nil)))))))))
    all_goals intro δ wa wx hk
    · refine ⟨wanted_free rfl, gp_run (build_byte (.const (.int .u8 128)) rfl (y := 128) (hk.lit _) wx) ?_⟩
      have hb : Below wx.heap.size wx (wx.alloc (.cells #[vb 128] 5)) := (Below.refl _ wx).alloc (Nat.le_refl _) _
      exact ⟨hb, hk.inv.trans (hb.mono hk.inv.size), _, _, rfl, row_new wx _ _ _ [128] rfl (by decide)⟩
    · exact ⟨wanted_free rfl, gp_move (.tmp 3) rfl ⟨Below.refl _ _, hk.inv, hk.old 3 (by kernel_rfl)⟩⟩
    · refine ⟨wanted_free rfl, sgp_make bt (.tmp 11) (.tmp 11) rfl z (hk.slot 11 (by kernel_rfl)) (hk.slot 11 (by kernel_rfl)) (by omega) ?_⟩
      intro w' ho hg
      have hb : Below wx.heap.size wx w' := ⟨hg.os, hg.tape, hg.output, hg.size, fun k hk => hg.block k hk (by simp)⟩
      have hr := ho.isRow
      exact ⟨hb, hk.inv.trans (hb.mono hk.inv.size), _, _, rfl, hr⟩
    · exact ⟨wanted_free rfl, gp_move (.tmp 0) rfl ⟨Below.refl _ _, hk.inv, hk.old 0 (by kernel_rfl)⟩⟩
    · refine ⟨wanted_free rfl, ?_⟩
      have e13 : wa.eval (.tmp 13) = _ := hk.slot 13 (by kernel_rfl)
      refine gp_run (v := vq (qOfI n)) (w' := wx) ?_ ⟨Below.refl _ _, hk.inv, rfl⟩
      unfold execOp
      dsimp only
      rw [e13]
      go_simp
      rw [wrap_u64_eq, qOfI_nat]
    · refine ⟨wanted_free rfl, gp_bin rfl (hk.lit _) (hk.slot 14 (by kernel_rfl)) (v := vq (qMul (qI 8) (qOfI n))) (fun w => ?_) ⟨Below.refl _ _, hk.inv, rfl⟩⟩
      go_simp
    · refine ⟨wanted_free rfl, gp_call rfl (hk.fn _) #[vq (qMul (qI 8) (qOfI n))] (fun w => by kernel_rfl) (by simp [show wa.eval (.tmp 15) = _ from hk.slot 15 (by kernel_rfl)]) ((put64_calls wx _).mono ?_)⟩
      rintro e w' ⟨a, c, rfl, ho, hb⟩
      exact ⟨_, rfl, hb, hk.inv.trans (hb.mono hk.inv.size), a, c, rfl, ho.isRow⟩
    · obtain ⟨a1, c1, e1, r1⟩ := hk.slot 10 (by kernel_rfl)
      obtain ⟨a2, c2, e2, r2⟩ := hk.slot 12 (by kernel_rfl)
      obtain ⟨a3, c3, e3, r3⟩ := hk.slot 16 (by kernel_rfl)
      refine ⟨wanted_free rfl, gp_run (build_parts (.tmp 10) (.tmp 12) (.tmp 16) rfl e1 e2 e3 wx) ?_⟩
      have hb : Below wx.heap.size wx (wx.alloc (.cells #[.slice a1 1 c1, .slice a2 z c2, .slice a3 8 c3] 40)) := (Below.refl _ wx).alloc (Nat.le_refl _) _
      refine ⟨hb, hk.inv.trans (hb.mono hk.inv.size), wx.heap.size, [.slice a1 1 c1, .slice a2 z c2, .slice a3 8 c3], rfl, ?_⟩
      refine parts_new wx _ _ _ rfl (fun i v l hv hl => ?_)
      match i with
      | 0 => simp at hv hl; subst hv hl; exact holds_of_row (l := [128]) r1
      | 1 => simp at hv hl; subst hv hl; have := holds_of_row r2; rwa [List.length_replicate] at this
      | 2 => simp at hv hl; subst hv hl; have := holds_of_row r3; rwa [rowB_length] at this
      | i + 3 => simp at hv
    · obtain ⟨g, vs, e17, hp⟩ := hk.slot 17 (by kernel_rfl)
      have hc := cat_calls wx g 0 3 vs _ hp (by simp) (by simp [rowB_length]; omega) (by simp)
      have hfl : ([[128], List.replicate z 0, rowB (qMul (qI 8) (qOfI n)) 8] : List (List UInt8)).flatten = 128 :: (List.replicate z 0 ++ rowB (qMul (qI 8) (qOfI n)) 8) := by simp
      rw [hfl] at hc
      have hl9 : (128 :: (List.replicate z 0 ++ rowB (qMul (qI 8) (qOfI n)) 8) : List UInt8).length = z + 9 := by simp [rowB_length]
      rw [hl9] at hc
      refine ⟨wanted_free rfl, gp_call rfl (hk.fn _) #[.slice (some ⟨g, 0, none⟩) 3 3] (fun w => by kernel_rfl) (by simp [e17]) (hc.mono ?_)⟩
      rintro e w' ⟨a, c, rfl, hm, hb⟩
      exact ⟨_, rfl, hb, hk.inv.trans (hb.mono hk.inv.size), a, c, rfl, hm.row⟩
    · exact ⟨wanted_free rfl, gp_assign (.tmp 18) rfl ⟨Below.refl _ _, hk.inv, hk.slot 18 (by kernel_rfl)⟩⟩
  intro δ wa wx hall hC hsame hT
  obtain ⟨a, c, e2, hr⟩ := hT 2 (by kernel_rfl)
  have hd := hsame.1
  rename_i hK
  refine hK wa wx ?_
  apply wp_ret
  refine bodyPost_ret (results_tmp rfl _ _ _) hd ⟨a, c, ?_, by rw [← HTB.out]; exact hr, hC⟩
  show Ending.returned (wa.eval (.tmp 2)) = _
  rw [e2, HL.out]
end Go.Proofs.YtlholdllibghbaaGreat

/- sha.Sum: walked. -/
namespace Go.Proofs.YtlholdllibghbaaGreat
open Go Go.RowKit Go.Cit

theorem eatAll_next (K : List UInt32) : ∀ (k : Nat) (s : S8) (b : List UInt8), eatAll K (k + 1) s b = (eatAll K k s b).eat K ((b.drop (64 * k)).take 64)
  | 0, s, b => rfl
  | k + 1, s, b => by
    rw [eatAll, eatAll_next K k, eatAll, List.drop_drop]
    congr 3
    omega
theorem tail_whole (n : Nat) : (n + (tailB n).length) % 64 = 0 := by
  unfold tailB
  simp [rowB_length]
  omega

theorem sum_pieces {M : List UInt8} {n : Nat} (hn : M.length = 64 * n) {ds : List (Sl UInt8)} (hds : ds.map (·.l) = cutL 64 M) : ds.length = n ∧ Hid (∀ k (h : k < ds.length), ds[k].l = (M.drop (64 * k)).take 64) := by
  have hdl : ds.length = n := by
    have := congrArg List.length hds
    rw [List.length_map, cutL, List.length_map, List.length_range, cutN, hn] at this
    omega
  refine ⟨hdl, fun k h => ?_⟩
  have h1 : (ds.map (·.l))[k]? = some (pieceL 64 M k) := by
    rw [hds, cutL, List.getElem?_map, List.getElem?_range (by unfold cutN; omega)]; rfl
  rw [List.getElem?_map, List.getElem?_eq_getElem h] at h1
  have h2 : ds[k].l = pieceL 64 M k := Option.some.inj h1
  rw [h2, pieceL, Nat.mul_comm]

set_option maxRecDepth 100000 in
set_option maxHeartbeats 4000000 in
theorem sum_calls (w : World) (a : Option Addr) (b : List UInt8) (c : Nat) (hr : Row w a b c) (hb : b.length ≤ 10000000) :
    Calls Tryz.prog 52 #[.slice a b.length c] w fun e w' => e = .returned (.agg ((sumB b).map vb).toArray) ∧ Below w.heap.size w w' := by
  have HA1 := Lib.hid (fun ρ d ty ps af w => alloc_state ρ d ty ps (af := af) w)
  have HA2 := Lib.hid (fun ρ d ty ps af w => alloc_w64 ρ d ty ps (af := af) w)
  have HA3 := Lib.hid (fun ρ d ty ps af w => salloc_tag ρ d ty ps (af := af) w)
  obtain ⟨Y, hY⟩ : ∃ Y, Hid (Y = ((List.replicate 8 (0 : UInt32)).map vw).toArray) := ⟨_, rfl⟩
  obtain ⟨Z, hZ⟩ : ∃ Y, Hid (Y = ((List.replicate 64 (0 : UInt32)).map vw).toArray) := ⟨_, rfl⟩
  obtain ⟨X, hX⟩ : ∃ Y, Hid (Y = ((List.replicate 32 (0 : UInt8)).map vb).toArray) := ⟨_, rfl⟩
  obtain ⟨S, hS⟩ : ∃ S, Hid (S = (first8.l.map vw).toArray) := ⟨_, rfl⟩
  obtain ⟨K, hK⟩ : ∃ S, Hid (S = (kTab.map vw).toArray) := ⟨_, rfl⟩
  rw [← hY.out] at HA1
  rw [← hZ.out] at HA2
  rw [← hX.out] at HA3
  have HY : Hid (Y.size = 8) := by rw [Hid, hY.out]; simp
  have HZ : Hid (Z.size = 64) := by rw [Hid, hZ.out]; simp
  have HX : Hid (X.size = 32) := by rw [Hid, hX.out]; simp
  have HSs : Hid (S.size = 8) := by rw [Hid, hS.out]; simp [S8.l]
  have HKs : Hid (K.size = 64) := by rw [Hid, hK.out]; simp [kTab]
  have HSo : Hid (S.all (·.oneCell') = true) := by rw [Hid, hS.out]; exact arr_ok _
  have HKo : Hid (K.all (·.oneCell') = true) := by rw [Hid, hK.out]; exact arr_ok _
  have HFC := Lib.hid (First_calls)
  have HCC := Lib.hid (constants_calls)
  rw [← hS.out] at HFC
  rw [← hK.out] at HCC
  go_enter Tryz.func52, Tryz.ntmps52
  go_wp2_with (first
    | ((with_reducible refine wpList_value (o := ⟨some 2, .alloc _, _, _, _, _⟩) (by with_unfolding_all rfl) (HA3.out _ _ _ _ _ _) ?_)))
  refine (HFC.out _).mono ?_
  rintro e w1 ⟨rfl, hb1⟩
  go_wp2_with fail
  refine (HCC.out _).mono ?_
  rintro e w2 ⟨rfl, hb2⟩
  have hX2 : w2.heap[w.heap.size]? = some (.cells X 53 (0, 0)) :=
    (hb2.block _ (by have := hb1.size; simp at this; omega)).trans ((hb1.block _ (by simp)).trans (heap_alloc_new w _))
  have B2 : Below w.heap.size w w2 := ((Below.refl _ w).alloc (Nat.le_refl _) _).trans ((hb1.mono (by simp)).trans (hb2.mono (by have := hb1.size; simp at this; omega)))
  have hlt2 : w.heap.size < w2.heap.size := by have := hb1.size; have := hb2.size; simp at *; omega
  clear hb1 hb2
  have c3 : ((w2.alloc (.cells Y 158)).alloc (.cells Z 160)).heap[w2.heap.size]? = some (.cells Y 158 (0, 0)) := (Below.heap_alloc _ _ _ (by simp)).trans (heap_alloc_new w2 _)
  have c4 : ((w2.alloc (.cells Y 158)).alloc (.cells Z 160)).heap[w2.heap.size + 1]? = some (.cells Z 160 (0, 0)) := by
    have := heap_alloc_new (w2.alloc (.cells Y 158)) (.cells Z 160)
    rwa [World.size_alloc] at this
  have hs2 : Save (fun _ => True) w2 ((w2.alloc (.cells Y 158)).alloc (.cells Z 160)) := (Save.alloc _ _).trans (Save.of (((Below.refl _ _).alloc (Nat.le_refl _) _)))
  have C3 := Lib.hid c3
  have C4 := Lib.hid c4
  have CS := Lib.hid hs2
  clear c3 c4 hs2
  have hsz4 : (w2.alloc (.cells Y 158)).heap.size = w2.heap.size + 1 := by simp
  have hsz5 : ((w2.alloc (.cells Y 158)).alloc (.cells Z 160)).heap.size = w2.heap.size + 2 := by simp
  have HS4 := Lib.hid hsz4
  have HS5 := Lib.hid hsz5
  clear hsz4 hsz5
  go_wp2_with (first
    | ((with_reducible refine wpList_value (o := ⟨some 3, .alloc _, _, _, _, _⟩) (by with_unfolding_all rfl) (HA1.out _ _ _ _ _ _) ?_))
    | ((with_reducible refine wpList_value (o := ⟨some 4, .alloc _, _, _, _, _⟩) (by with_unfolding_all rfl) (HA2.out _ _ _ _ _ _) ?_))
    | ((with_reducible refine wpList_storeB (o := ⟨none, .store _ (.tmp 3) (.tmp 7), _, _, _, _⟩) row_state (.tmp 3) (.tmp 7) (by with_unfolding_all rfl) (by with_unfolding_all rfl) (by with_unfolding_all rfl) (by with_unfolding_all rfl) (by with_unfolding_all rfl) C3.out HY.out HSs.out HSo.out ?_); intro w3 hb3 hS3; have c4' : Hid (w3.heap[(w2.alloc (.cells Y 158)).heap.size]? = some (.cells Z 160 (0, 0))) := HS4.out ▸ ((hS3.block (w2.heap.size + 1) (by have h5 := HS5.out; omega) (by show w2.heap.size + 1 ≠ w2.heap.size; omega)).trans C4.out))
    | ((with_reducible refine wpList_storeB (o := ⟨none, .store _ (.tmp 4) (.tmp 8), _, _, _, _⟩) row_w64 (.tmp 4) (.tmp 8) (by with_unfolding_all rfl) (by with_unfolding_all rfl) (by with_unfolding_all rfl) (by with_unfolding_all rfl) (by with_unfolding_all rfl) c4'.out HZ.out HKs.out HKo.out ?_); intro w4 hb4 hS4))
  rw [HS4.out] at hb4 hS4
  have hlt4 : w2.heap.size + 2 ≤ w4.heap.size := by have := hS3.size; have := hS4.size; have := HS5.out; omega
  have hb3' := (hS4.block w2.heap.size (by have := hS3.size; have := HS5.out; omega) (by omega)).trans hb3
  have B4 : Below w.heap.size w w4 := by
    refine B2.trans (((CS.out.below (B := w.heap.size) (by omega) (fun _ _ => trivial)).trans (hS3.below (by have := HS5.out; omega) (fun j hj => by omega))).trans (hS4.below (by have := hS3.size; have := HS5.out; omega) (fun j hj => by omega)))
  have hX4 : Hid (w4.heap[w.heap.size]? = some (.cells X 53 (0, 0))) :=
    (hS4.block _ (by have := hS3.size; have := HS5.out; omega) (by omega)).trans ((hS3.block _ (by have := HS5.out; omega) (by omega)).trans ((CS.out.block _ (by omega) trivial).trans hX2))
  have A3 : Hid (Arr 158 w4 w2.heap.size first8.l) := by have := hb3'; rw [hS.out] at this; exact this
  have A4 : Hid (Arr 160 w4 (w2.heap.size + 1) kTab) := by have := hb4; rw [hK.out] at this; exact this
  have HR4 := Lib.hid (hr.stay B4)
  have HBL := Lib.hid hb
  clear hb3 hb3' hb4 hS3 hS4 c4' C3 C4 CS HS4 HS5 hX2 B2 hr
  obtain ⟨n2, hn2⟩ : ∃ n, n = w2.heap.size := ⟨_, rfl⟩
  rw [← hn2] at A3 A4 hlt4 hlt2 ⊢
  clear hn2
  refine (tail_calls w4 b.length (by omega)).mono ?_
  rintro e w5 ⟨a5, c5, rfl, hr5, hb5⟩
  go_wp2_with fail
  have hr0 : Row w5 a b c := HR4.out.stay hb5
  have htl : (tailB b.length).length ≤ 100 := by unfold tailB; simp [rowB_length]; omega
  refine (cat2_calls w5 _ hr0 hr5 (by omega) (by omega)).mono ?_
  rintro e w6 ⟨a6, c6, rfl, hm6, hb6⟩
  have hW := tail_whole b.length
  obtain ⟨M, hM⟩ : ∃ M, Hid (M = b ++ tailB b.length) := ⟨_, rfl⟩
  rw [← hM.out] at hm6 ⊢
  obtain ⟨n, hn⟩ : ∃ n, M.length = 64 * n := ⟨M.length / 64, by rw [hM.out, List.length_append]; omega⟩
  have HN : Hid (n = (b.length + (tailB b.length).length) / 64) := by rw [Hid, ← List.length_append, ← hM.out, hn]; omega
  have hML : M.length ≤ 20000000 := by rw [hM.out, List.length_append]; omega
  have h46 : Below w4.heap.size w4 w6 := hb5.trans (hb6.mono hb5.size)
  have HMN := Lib.hid hn
  clear hr0 hr5 hb5 hb6 htl hW hn
  go_wp2_with fail
  refine (cut_own w6 a6 M c6 64 hm6.row (by decide) (by decide) (by omega)).mono ?_
  rintro e w7 ⟨a7, ds, c7, rfl, hds, hR, hNw, hb7⟩
  have h47 : Below w4.heap.size w4 w7 := h46.trans (hb7.mono h46.size)
  obtain ⟨hdl, HD⟩ := sum_pieces HMN.out hds
  have HNW : Hid ((∀ g, Go.Cit.blk a7 = some g → w4.heap.size ≤ g) ∧ ∀ d ∈ ds, ∀ g, Go.Cit.blk d.a = some g → w4.heap.size ≤ g) := ⟨fun g h => Nat.le_trans h46.size (hNw.1 g h), fun d hd g h => Nat.le_trans h46.size (hNw.2 d hd g h)⟩
  have HDL := Lib.hid hdl
  have A7 := A3.out.stay h47
  clear hds hNw hb7 h46 hm6 hdl
  go_wp2_with fail
  have hnb : n ≤ 20000000 := by have := HMN.out; omega
  go_loopw [17] (fun i wr => ∃ (k : Nat), k ≤ n ∧ i = .int .i64 k ∧ Arr 158 wr n2 (eatAll kTab k first8 M).l ∧ Save (· ≠ n2) w7 wr) (fun i _ => n - (intOf i).toNat)
  case atStart => exact ⟨0, Nat.zero_le _, rfl, A7, Save.refl _ _⟩
  case round =>
    clear A7
    obtain ⟨k, hk, rfl, AX, hsv⟩ := hrel
    have hRr := hR.save hsv (fun g hg => by have := HNW.out.1 g hg; omega) (fun d hd g hg => by have := HNW.out.2 d hd g hg; omega)
    by_cases hlt : k < n
    · have hkd : k < ds.length := by rw [HDL.out]; exact hlt
      have d1 : decide (k < ds.length) = true := by simp; omega
      have i0 := hRr.index k hkd
      have e0 := hRr.cell k hkd
      have hrow := hRr.row ds[k] (List.getElem_mem hkd)
      have hpl := HD.out k hkd
      generalize ds[k] = d at e0 hrow hpl
      have hp64 : d.l.length = 64 := by rw [hpl, List.length_take, List.length_drop, HMN.out]; omega
      rw [hp64] at e0
      have A4w : Hid (wr.heap[n2 + 1]? = some (.cells (kTab.map vw).toArray 160 (0, 0))) := (A4.out.stay h47).save hsv (by omega)
      have hek := eat_calls wr (eatAll kTab k first8 M) d.a d.l d.c kTab hrow hp64 (by decide)
      rw [hpl, ← eatAll_next] at hek
      have hSz : Hid (((eatAll kTab k first8 M).l.map vw).toArray.size = 8) := by simp [Hid, S8.l]
      have hSz' : Hid (((eatAll kTab (k + 1) first8 M).l.map vw).toArray.size = 8) := by simp [Hid, S8.l]
      have hKz : Hid ((kTab.map vw).toArray.size = 64) := by simp [Hid, kTab]
      have hSo : Hid (((eatAll kTab (k + 1) first8 M).l.map vw).toArray.all (·.oneCell') = true) := by rw [Hid]; exact arr_ok _
      have HEK := Lib.hid hek
      have HAX : Hid (wr.heap[n2]? = some (.cells ((eatAll kTab k first8 M).l.map vw).toArray 158 (0, 0))) := AX
      have HSV := Lib.hid hsv
      clear hek AX hsv hp64 hpl hRr hrow
      go_wp2_with (first
        | ((with_reducible refine wpList_loadB (o := ⟨some 21, .load _ _, _, _, _, _⟩) row_state (.tmp 3) (by with_unfolding_all rfl) (by with_unfolding_all rfl) (by with_unfolding_all rfl) HAX.out hSz.out ?_))
        | ((with_reducible refine wpList_loadB (o := ⟨some 23, .load _ _, _, _, _, _⟩) row_w64 (.tmp 4) (by with_unfolding_all rfl) (by with_unfolding_all rfl) (by with_unfolding_all rfl) A4w.out hKz.out ?_)))
      refine HEK.out.mono ?_
      rintro e wr' ⟨rfl, hbr⟩
      have HBX := Lib.hid hbr
      have HAX' : Hid (wr'.heap[n2]? = some (.cells ((eatAll kTab k first8 M).l.map vw).toArray 158 (0, 0))) := (hbr.block n2 (Array.getElem?_eq_some_iff.1 HAX.out).1).trans HAX.out
      clear hbr
      go_wp2_with (first
        | ((with_reducible refine wpList_storeB (o := ⟨none, .store _ (.tmp 3) (.tmp 24), _, _, _, _⟩) row_state (.tmp 3) (.tmp 24) (by with_unfolding_all rfl) (by with_unfolding_all rfl) (by with_unfolding_all rfl) (by with_unfolding_all rfl) (by with_unfolding_all rfl) HAX'.out hSz.out hSz'.out hSo.out ?_); intro wq hbq hsq; have HBQ := Lib.hid hbq; have HSQ := Lib.hid hsq; clear hbq hsq))
      go_roundw
      case rel => exact ⟨k + 1, by omega, by go_num, HBQ.out, HSV.out.trans ((Save.of HBX.out).trans HSQ.out)⟩
      case measure => simp [intOf]; omega
    · have d1 : decide (k < ds.length) = false := by have := HDL.out; simp; omega
      obtain rfl : k = n := by omega
      have HAX : Hid (wr.heap[n2]? = some (.cells ((eatAll kTab k first8 M).l.map vw).toArray 158 (0, 0))) := AX
      have hSz : Hid (((eatAll kTab k first8 M).l.map vw).toArray.size = 8) := by simp [Hid, S8.l]
      have HSV := Lib.hid hsv
      have HX7 : Hid (wr.heap[w.heap.size]? = some (.cells X 53 (0, 0))) := (hsv.block _ (by have := h47.size; omega) (by omega)).trans ((h47.block _ (by omega)).trans hX4.out)
      have hbm : sumB b = sprintB (eatAll kTab k first8 M) := by unfold sumB; rw [HN.out, hM.out]
      have HBM := Lib.hid hbm
      have HPC := Lib.hid (sprint_calls wr (eatAll kTab k first8 M))
      clear hbm AX hsv hRr
      go_wp2_with (first
        | ((with_reducible refine wpList_loadB (o := ⟨some 26, .load _ _, _, _, _, _⟩) row_state (.tmp 3) (by with_unfolding_all rfl) (by with_unfolding_all rfl) (by with_unfolding_all rfl) HAX.out hSz.out ?_)))
      refine HPC.out.mono ?_
      rintro e wz ⟨rfl, hbz⟩
      have HX8 : Hid (wz.heap[w.heap.size]? = some (.cells X 53 (0, 0))) := (hbz.block _ (Array.getElem?_eq_some_iff.1 HX7.out).1).trans HX7.out
      have HBZ := Lib.hid hbz
      obtain ⟨R, hR0⟩ : ∃ R, Hid (R = ((sprintB (eatAll kTab k first8 M)).map vb).toArray) := ⟨_, rfl⟩
      rw [← hR0.out]
      have HRs : Hid (R.size = 32) := by rw [Hid, hR0.out]; simp [sprintB, S8.l, rowB_length]
      have HRo : Hid (R.all (·.oneCell') = true) := by rw [Hid, hR0.out]; exact arrB_ok _
      clear hbz
      go_wp2_with (first
        | ((with_reducible refine wpList_storeB (o := ⟨none, .store _ (.tmp 2) (.tmp 27), _, _, _, _⟩) row_tag (.tmp 2) (.tmp 27) (by with_unfolding_all rfl) (by with_unfolding_all rfl) (by with_unfolding_all rfl) (by with_unfolding_all rfl) (by with_unfolding_all rfl) HX8.out HX.out HRs.out HRo.out ?_); intro wq hbq hsq; have HBQ := Lib.hid hbq; have HSQ := Lib.hid hsq; clear hbq hsq))
      refine bodyPost_ret (resB1 row_tag rfl rfl HBQ.out HRs.out) rfl ⟨?_, ?_⟩
      · rw [HBM.out, hR0.out]
      · have h7 := (h47.mono (Nat.le_of_lt (Nat.lt_of_lt_of_le (Nat.lt_succ_of_lt hlt2) (Nat.le_of_succ_le hlt4)))).trans (HSV.out.below (by have := h47.size; omega) (fun j hj => by omega))
        have h8 : Below w.heap.size w wr := B4.trans (h7.mono (by omega))
        exact h8.trans ((HBZ.out.mono h8.size).trans (HSQ.out.below (by have := h8.size; have := HBZ.out.size; omega) (fun j hj => by omega)))
end Go.Proofs.YtlholdllibghbaaGreat

