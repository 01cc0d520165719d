/- The laws' own 'awake' of layer 3: it returns true. Walked. -/
import Derived.Test.YtiemafgnpmoblaaLawShaSums
import Derived.Test.YtiemafgnpmoblaaGf
import Derived.Lib.SlBytesConst
namespace Go.Proofs.Ytiemafgnpmoblaa
open Go Go.RowKit Go.Cit

theorem sawk_0 : sumB [] = [227, 176, 196, 66, 152, 252, 28, 20, 154, 251, 244, 200, 153, 111, 185, 36, 39, 174, 65, 228, 100, 155, 147, 76, 164, 149, 153, 27, 120, 82, 184, 85] := by decide +kernel
theorem sawk_a : sumB [97, 98, 99] = [186, 120, 22, 191, 143, 1, 207, 234, 65, 65, 64, 222, 93, 174, 34, 35, 176, 3, 97, 163, 150, 23, 122, 156, 180, 16, 255, 97, 242, 0, 21, 173] := by decide +kernel
theorem sawk_h0 : hexB (sumB []) = [101, 51, 98, 48, 99, 52, 52, 50, 57, 56, 102, 99, 49, 99, 49, 52, 57, 97, 102, 98, 102, 52, 99, 56, 57, 57, 54, 102, 98, 57, 50, 52, 50, 55, 97, 101, 52, 49, 101, 52, 54, 52, 57, 98, 57, 51, 52, 99, 97, 52, 57, 53, 57, 57, 49, 98, 55, 56, 53, 50, 98, 56, 53, 53] := by rw [sawk_0]; decide +kernel
theorem sawk_ha : hexB (sumB [97, 98, 99]) = [98, 97, 55, 56, 49, 54, 98, 102, 56, 102, 48, 49, 99, 102, 101, 97, 52, 49, 52, 49, 52, 48, 100, 101, 53, 100, 97, 101, 50, 50, 50, 51, 98, 48, 48, 51, 54, 49, 97, 51, 57, 54, 49, 55, 55, 97, 57, 99, 98, 52, 49, 48, 102, 102, 54, 49, 102, 50, 48, 48, 49, 53, 97, 100] := by rw [sawk_a]; decide +kernel

/-- What is kept of a variable that holds a state. -/
def stK (wx w' : World) : Prop := ∀ (b : Nat) (C : Array Value), wx.heap[b]? = some (Obj.cells C 24 (0, 0)) → C.size = 8 → ∃ C' : Array Value, w'.heap[b]? = some (Obj.cells C' 24 (0, 0)) ∧ C'.size = 8
theorem stK_of {wx w' : World} (h : Below wx.heap.size wx w') : stK wx w' := fun b C hb hC => ⟨C, (h.block b (Array.getElem?_eq_some_iff.1 hb).1).trans hb, hC⟩
def sawkT (B : Nat) : Nat → Value → World → Prop
  | 4, v, _ => v = .agg (first8.l.map vw).toArray
  | 5, v, _ => ∃ a c, v = .slice a 63 c
  | 6, v, _ => v = .tuple #[.agg (zero8.l.map vw).toArray, .int .i64 2]
  | 3, v, _ => v = .tuple #[.agg (zero8.l.map vw).toArray, .int .i64 2]
  | 7, v, _ => v = .agg (zero8.l.map vw).toArray
  | 8, v, _ => v = .int .i64 2
  | 1, v, w => ∃ (b : Nat) (C : Array Value), v = .pointer (some ⟨b, 0, none⟩) ∧ B ≤ b ∧ w.heap[b]? = some (Obj.cells C 24 (0, 0)) ∧ C.size = 8
  | 2, v, _ => v = .int .i64 2
  | _, _, _ => True
theorem sawkT_stay {B d : Nat} {v : Value} {wx w' : World} (hG : stK wx w') (h : sawkT B d v wx) : sawkT B d v w' := by
  unfold sawkT at h ⊢
  split at h <;> try exact h
  obtain ⟨b, C, h1, h2, h3, h4⟩ := h
  obtain ⟨C', h5, h6⟩ := hG b C h3 h4
  exact ⟨b, C', h1, h2, h5, h6⟩

theorem str_same {x y : Operand} (S : ByteArray) (w : World) : (do eqGuard .eql 9 x y (.string S) (.string S); binOp .eql 9 (.string S) (.string S) : Sem Value).run Try.prog w = .ok (.bool true) w := by
  go_simp
theorem rows_one (w : World) (T : TypeId) (d : Sl UInt8) (h : Row w d.a d.l d.c) : Rows (w.alloc (.cells #[sv d] T)) (some ⟨w.heap.size, 0, none⟩) [d] 1 := by
  refine rows_vec (vec_lit w #[sv d] T 1 [d] sf_len (by rfl) (by simp)) (fun x hx => ?_)
  obtain rfl : x = d := by simpa using hx
  exact h.stay ((Below.refl _ _).alloc (Nat.le_refl _) _)

theorem chN_one (d : Sl UInt8) : chN ([d].map (·.l)) [d].length = sumB d.l := by
  show chN [d.l] 1 = _
  rw [chN, if_pos rfl]
  simp
theorem chain_one (w : World) (T : TypeId) (d : Sl UInt8) (h : Row w d.a d.l d.c) (h9 : d.l.length ≤ 1000000) :
    Calls Try.prog 28 #[.slice (some ⟨w.heap.size, 0, none⟩) 1 1] (w.alloc (.cells #[sv d] T)) fun e w' => e = .returned (.agg ((sumB d.l).map vb).toArray) ∧ Below w.heap.size w w' := by
  have hc := chain_calls _ _ [d] 1 (rows_one w T d h) (fun x hx => by obtain rfl := List.mem_singleton.1 hx; exact h9)
  rw [chN_one] at hc
  exact hc.mono fun e w' ⟨he, hb⟩ => ⟨he, ((Below.refl _ _).alloc (Nat.le_refl _) _).trans (hb.mono (by simp))⟩
theorem chain_nil (w : World) : Calls Try.prog 28 #[.slice none 0 0] w fun e w' => e = .returned (.agg ((sumB []).map vb).toArray) ∧ Below w.heap.size w w' :=
  chain_calls w none [] 0 ⟨Nat.le_refl _, Nat.zero_le _, fun _ => rfl, fun h => (h rfl).elim, fun i h => by simp at h, fun d hd => by simp at hd⟩ (fun d hd => by simp at hd)

set_option maxRecDepth 100000 in
set_option maxHeartbeats 4000000 in
theorem shaAwake_calls (w : World) :
    Calls Try.prog 30 #[] w fun e w' => e = .returned (.bool true) ∧ Below w.heap.size w w' := by
  have kc := fun (w : World) (C : Array Value) (n c : Nat) => Lib.run_convert_bytes_const (P := Try.prog) w 25 5 C n c Try.underlying25 Try.underlying5
  have hmk : ∀ w : World, (Instr.makeSlice 25 (.int .i64 63) (.int .i64 63)).run Try.prog w = .ok (.slice (some ⟨w.heap.size, 0, none⟩) 63 63) (w.alloc (.cells (madeCells #[.int .u8 0] 63) 5)) := fun _ => by kernel_rfl
  have HMK := Lib.hid hmk
  clear hmk
  go_enter Try.func30, Try.ntmps30
  go_wp2_with fail
  refine wp_region_ph (fun _ wx => Below w.heap.size w wx) (fun _ wx w' => stK wx w') (sawkT w.heap.size) (by kernel_rfl) (by kernel_rfl) ?_ ?_ ?_ ?_
  · intro w' hb hh
    exact hb
  · intro δ i j o v w1 w2 _ _ _ _ _ _ hG h
    rcases hd : o.dst with _ | d
    · exact tyP_none hd _ _
    · rw [tyP_some hd] at h ⊢
      exact sawkT_stay hG h
  · refine opsAll_cons ?_ (opsAll_cons ?_ (opsAll_cons ?_ (opsAll_cons ?_ (opsAll_cons ?_ (opsAll_cons ?_ (opsAll_cons ?_ (opsAll_cons ?_ (opsAll_cons ?_ opsAll_nil))))))))
    all_goals intro δ wa wx hk
    · refine ⟨wanted_free rfl, gp_call rfl (hk.fn _) #[] (fun w => by kernel_rfl) (by simp) ((First_calls wx).mono ?_)⟩
      rintro e w' ⟨rfl, hb⟩
      exact ⟨_, rfl, stK_of hb, hk.inv.trans (hb.mono hk.inv.size), rfl⟩
    · have hb : Below wx.heap.size wx (wx.alloc (.cells (madeCells #[.int .u8 0] 63) 5)) := (Below.refl _ _).alloc (Nat.le_refl _) _
      refine ⟨wanted_free rfl, gp_run (v := .slice (some ⟨wx.heap.size, 0, none⟩) 63 63) (w' := wx.alloc (.cells (madeCells #[.int .u8 0] 63) 5)) ?_ ⟨stK_of hb, hk.inv.trans (hb.mono hk.inv.size), _, _, rfl⟩⟩
      unfold execOp
      dsimp only
      rw [hk.lit, Sem.run_bind, HMK.out wx]
      rfl
    · obtain ⟨a5, c5, e5⟩ := hk.slot 5 (by kernel_rfl)
      refine ⟨wanted_free rfl, gp_call rfl (hk.fn _) #[.agg (first8.l.map vw).toArray, .slice a5 63 c5] (fun w => by kernel_rfl) (by simp [show wa.eval (.tmp 4) = _ from hk.slot 4 (by kernel_rfl), e5]) ((eatno_calls wx _ a5 63 c5 (by decide)).mono ?_)⟩
      rintro e w' ⟨rfl, hb⟩
      exact ⟨_, rfl, stK_of hb, hk.inv.trans (hb.mono hk.inv.size), rfl⟩
    · exact ⟨wanted_free rfl, gp_move (.tmp 6) rfl ⟨stK_of (Below.refl _ _), hk.inv, hk.slot 6 (by kernel_rfl)⟩⟩
    · refine ⟨wanted_free rfl, gp_run (v := .agg (zero8.l.map vw).toArray) (w' := wx) ?_ ⟨stK_of (Below.refl _ _), hk.inv, rfl⟩⟩
      unfold execOp
      dsimp only
      rw [show wa.eval (.tmp 3) = _ from hk.slot 3 (by kernel_rfl)]
      rfl
    · refine ⟨wanted_free rfl, gp_run (v := .int .i64 2) (w' := wx) ?_ ⟨stK_of (Below.refl _ _), hk.inv, rfl⟩⟩
      unfold execOp
      dsimp only
      rw [show wa.eval (.tmp 3) = _ from hk.slot 3 (by kernel_rfl)]
      rfl
    · have hb : Below wx.heap.size wx (wx.alloc (.cells ((List.replicate 8 (0 : UInt32)).map vw).toArray 24)) := (Below.refl _ _).alloc (Nat.le_refl _) _
      exact ⟨wanted_free rfl, gp_run (alloc_state _ _ _ _ wx) ⟨stK_of hb, hk.inv.trans (hb.mono hk.inv.size), wx.heap.size, _, rfl, hk.inv.size, heap_alloc_new _ _, by simp⟩⟩
    · obtain ⟨b, C, e1, hB, hb, hC⟩ := hk.slot 1 (by kernel_rfl)
      refine ⟨wanted_free rfl, gp_storeB row_state (.tmp 1) (.tmp 7) rfl e1 (hk.slot 7 (by kernel_rfl)) hb hC rfl (arr_ok _) ?_⟩
      intro w' hb' hs
      refine ⟨fun b2 C2 hb2 hC2 => ?_, hk.inv.trans (hs.below hk.inv.size (fun j hj => by omega)), tyP_none rfl _ _⟩
      by_cases h : b2 = b
      · subst h; exact ⟨_, hb', rfl⟩
      · exact ⟨C2, (hs.block b2 (Array.getElem?_eq_some_iff.1 hb2).1 h).trans hb2, hC2⟩
    · exact ⟨wanted_free rfl, gp_assign (.tmp 8) rfl ⟨stK_of (Below.refl _ _), hk.inv, hk.slot 8 (by kernel_rfl)⟩⟩
  intro δ a wz hall B hsame hT
  have he := act_same hsame [4, 5, 6, 3, 7, 8, 1, 2] (by kernel_rfl)
  obtain ⟨a5, c5, e5⟩ := hT 5 (by kernel_rfl)
  obtain ⟨b1, C1, e1, _⟩ := hT 1 (by kernel_rfl)
  simp only [List.foldl_cons, List.foldl_nil] at he
  rw [show a.eval (.tmp 4) = _ from hT 4 (by kernel_rfl), e5, show a.eval (.tmp 6) = _ from hT 6 (by kernel_rfl), show a.eval (.tmp 3) = _ from hT 3 (by kernel_rfl), show a.eval (.tmp 7) = _ from hT 7 (by kernel_rfl), show a.eval (.tmp 8) = _ from hT 8 (by kernel_rfl), e1, show a.eval (.tmp 2) = _ from hT 2 (by kernel_rfl)] at he
  simp only [Act.put, List.setIfInBounds_toArray, List.set_cons_zero, List.set_cons_succ] at he
  subst he
  clear hsame hT hall e5 e1
  have hS : Calls Try.prog 22 #[.slice none 0 0] wz fun e w' => e = .returned (.agg ((sumB []).map vb).toArray) ∧ Below wz.heap.size wz w' := sum_calls wz none [] 0 (Row.nil_ _) (by simp)
  have HS := Lib.hid hS
  clear hS
  go_wp2_with fail
  refine HS.out.mono ?_
  rintro e w1 ⟨rfl, hb1⟩
  have B1 := B.trans (hb1.mono B.size)
  have hH := hex_calls w1 (sumB []) (sumB_len _)
  rw [sawk_h0] at hH
  have HH := Lib.hid hH
  clear hb1 hH B HS
  go_wp2_with fail
  refine HH.out.mono ?_
  rintro e w2 ⟨rfl, hb2⟩
  have B2 := B1.trans (hb2.mono B1.size)
  clear hb2 B1 HH
  go_wp2_with (first
    | ((with_reducible refine wpList_value (o := ⟨some 11, .binOp _ _ _ _ _, _, _, _, _⟩) (by with_unfolding_all rfl) (exec_bin (by with_unfolding_all rfl) (by with_unfolding_all rfl) (by with_unfolding_all rfl) (str_same _) _) ?_)))
  have hA : ∀ (W : World) (o : Obj), Below W.heap.size W (W.alloc o) := fun W o => (Below.refl _ _).alloc (Nat.le_refl _) _
  have HBA := Lib.hid hA
  clear hA
  have h3 : Calls Try.prog 22 #[.slice (some ⟨w2.heap.size, 0, none⟩) 3 3] (w2.alloc (.cells #[.int .u8 97, .int .u8 98, .int .u8 99] 5 (3, 4))) _ := sum_calls _ _ [97, 98, 99] 3 (row_new w2 _ _ (3, 4) [97, 98, 99] rfl (by simp)) (by simp)
  refine h3.mono ?_
  rintro e w3 ⟨rfl, hb3⟩
  have B3 := B2.trans (((HBA.out w2 (.cells #[.int .u8 97, .int .u8 98, .int .u8 99] 5 (3, 4))).trans (hb3.mono (HBA.out w2 _).size)).mono B2.size)
  have hH := hex_calls w3 (sumB [97, 98, 99]) (sumB_len _)
  rw [sawk_ha] at hH
  have HH := Lib.hid hH
  clear hb3 h3 hH B2
  go_wp2_with fail
  refine HH.out.mono ?_
  rintro e w4 ⟨rfl, hb4⟩
  have B4 := B3.trans (hb4.mono B3.size)
  clear hb4 B3 HH
  go_wp2_with (first
    | ((with_reducible refine wpList_value_gd (o := ⟨some 17, .binOp _ _ _ _ _, _, _, _, _⟩) (by with_unfolding_all rfl) (exec_bin (by with_unfolding_all rfl) (by with_unfolding_all rfl) (by with_unfolding_all rfl) (str_same _) _) ?_)))
  have t55 : (tailB 55).length = 9 := by decide +kernel
  have t56 : (tailB 56).length = 72 := by decide +kernel
  have h5 : Calls Try.prog 23 #[.int .i64 55] w4 _ := tail_calls w4 55 (by decide)
  rw [t55] at h5
  refine h5.mono ?_
  rintro e w5 ⟨a5', c5', rfl, _, hb5⟩
  have B5 := B4.trans (hb5.mono B4.size)
  clear t55 h5 hb5 B4
  have HT56 := Lib.hid t56
  clear t56
  go_wp2_with fail
  have h6 : Calls Try.prog 23 #[.int .i64 56] w5 _ := tail_calls w5 56 (by decide)
  rw [HT56.out] at h6
  refine h6.mono ?_
  rintro e w6 ⟨a6', c6', rfl, _, hb6⟩
  have B6 := B5.trans (hb6.mono B5.size)
  clear h6 hb6 B5
  go_wp2_with fail
  have r6 : Row (w6.alloc (.cells #[.int .u8 97, .int .u8 98, .int .u8 99] 5 (3, 4))) (some ⟨w6.heap.size, 0, none⟩) [97, 98, 99] 3 := row_new w6 _ _ (3, 4) [97, 98, 99] rfl (by simp)
  have h7 : Calls Try.prog 28 #[.slice (some ⟨w6.heap.size + 1, 0, none⟩) 1 1] ((w6.alloc (.cells #[.int .u8 97, .int .u8 98, .int .u8 99] 5 (3, 4))).alloc (.cells #[.slice (some ⟨w6.heap.size, 0, none⟩) 3 3] 25)) fun e w' => e = .returned (.agg ((sumB [97, 98, 99]).map vb).toArray) ∧ Below w6.heap.size w6 w' := by
    have h := chain_one _ 25 (⟨some ⟨w6.heap.size, 0, none⟩, 3, [97, 98, 99]⟩ : Sl UInt8) r6 (by simp)
    rw [World.size_alloc] at h
    exact h.mono fun e w' ⟨he, hb⟩ => ⟨he, (HBA.out w6 _).trans (hb.mono (Nat.le_succ _))⟩
  refine h7.mono ?_
  rintro e w7 ⟨rfl, hb7⟩
  have B7 := B6.trans (hb7.mono B6.size)
  obtain ⟨D, hD⟩ : ∃ D, Hid (D = ((sumB [97, 98, 99]).map vb).toArray) := ⟨_, rfl⟩
  rw [← hD.out]
  have HEQD : Hid (∀ w, (Op.equalIn 10000 36 (.agg D) (.agg D)).run Try.prog w = .ok true w) := by
    intro w; rw [hD.out, run_eq_bytes tagT _ _ (sumB_len _) (sumB_len _)]; simp
  clear r6 h7 hb7 B6
  go_wp2_with fail
  have h8 : Calls Try.prog 22 #[.slice (some ⟨w7.heap.size, 0, none⟩) 3 3] (w7.alloc (.cells #[.int .u8 97, .int .u8 98, .int .u8 99] 5 (3, 4))) _ := sum_calls _ _ [97, 98, 99] 3 (row_new w7 _ _ (3, 4) [97, 98, 99] rfl (by simp)) (by simp)
  refine h8.mono ?_
  rintro e w8 ⟨rfl, hb8⟩
  have B8 := B7.trans (((HBA.out w7 (.cells #[.int .u8 97, .int .u8 98, .int .u8 99] 5 (3, 4))).trans (hb8.mono (HBA.out w7 _).size)).mono B7.size)
  rw [← hD.out]
  have HC8 := Lib.hid (chain_nil w8)
  clear h8 hb8 B7 hD
  go_wp2_with (first
    | ((with_reducible refine wpList_value_gd (o := ⟨some 41, .binOp _ _ _ _ _, _, _, _, _⟩) (by with_unfolding_all rfl) (exec_bin (by with_unfolding_all rfl) (by with_unfolding_all rfl) (by with_unfolding_all rfl) (run_eql_op tagT.guard _ _ HEQD.out) _) ?_)))
  refine HC8.out.mono ?_
  rintro e w9 ⟨rfl, hb9⟩
  have B9 := B8.trans (hb9.mono B8.size)
  have hS9 : Calls Try.prog 22 #[.slice none 0 0] w9 fun e w' => e = .returned (.agg ((sumB []).map vb).toArray) ∧ Below w9.heap.size w9 w' := sum_calls w9 none [] 0 (Row.nil_ _) (by simp)
  have HS9 := Lib.hid hS9
  obtain ⟨E, hE⟩ : ∃ D, Hid (D = ((sumB []).map vb).toArray) := ⟨_, rfl⟩
  rw [← hE.out] at HS9 ⊢
  have HEQE : Hid (∀ w, (Op.equalIn 10000 36 (.agg E) (.agg E)).run Try.prog w = .ok true w) := by
    intro w; rw [hE.out, run_eq_bytes tagT _ _ (sumB_len _) (sumB_len _)]; simp
  clear hb9 B8 hS9 hE HC8 HEQD
  go_wp2_with fail
  refine HS9.out.mono ?_
  rintro e w10 ⟨rfl, hb10⟩
  have B10 := B9.trans (hb10.mono B9.size)
  clear hb10 B9 HS9
  go_wp2_with (first
    | ((with_reducible refine wpList_value_gd (o := ⟨some 46, .binOp _ _ _ _ _, _, _, _, _⟩) (by with_unfolding_all rfl) (exec_bin (by with_unfolding_all rfl) (by with_unfolding_all rfl) (by with_unfolding_all rfl) (run_eql_op tagT.guard _ _ HEQE.out) _) ?_)))
  go_ret
  exact ⟨rfl, B10⟩
end Go.Proofs.Ytiemafgnpmoblaa
