/- sha.Tail: walked. -/
import Derived.Test.YtiemafgnpmoblaaShaDef
import Derived.Test.YtiemafgnpmoblaaCat
import Derived.Test.YtiemafgnpmoblaaWordsLoad
import Derived.Test.YtiemafgnpmoblaaBoxTwo
import Derived.IntWalk
namespace Go.Proofs.Ytiemafgnpmoblaa
open Go Go.RowKit Go.Cit

theorem holds_stay {w w' : World} {v : Value} {l : List UInt8} (h : Lib.HoldsBytes w v l) (hb : Below w.heap.size w w') : Lib.HoldsBytes w' v l := by
  obtain ⟨p, cap, e, h1, h2⟩ := h
  refine ⟨p, cap, e, h1, fun a ha j x hx => ?_⟩
  have hc := h2 a ha j x hx
  exact (hb.cell (World.block_lt_of_cell? w _ hc)).trans hc
theorem parts_stay {w w' : World} {p : Addr} {vs : List Value} {ls : List (List UInt8)} (h : Lib.PartsAt w p vs ls) (hb : Below w.heap.size w w') : Lib.PartsAt w' p vs ls := by
  obtain ⟨x, y, z⟩ := h
  exact ⟨x, fun i v hv => (hb.cell (World.block_lt_of_cell? w _ (y i v hv))).trans (y i v hv), fun i v l hv hl => holds_stay (z i v l hv hl) hb⟩

theorem gp_make {P : Program} {T E : TypeId} (hBT : ByteTypes P T E) {w : World} {o : Oper} {ρ : Operand → Value} {post : Value → World → Prop} (x y : Operand)
    (ho : o.op = .makeSlice T x y) (n : Nat) {k1 k2 : IntKind} (hx : ρ x = .int k1 (n : Int)) (hy : ρ y = .int k2 (n : Int)) (hn : n ≤ 1000000000)
    (h : ∀ w', Go.Cit.Own E w.heap.size w' (some ⟨w.heap.size, 0, none⟩) (List.replicate n 0) n → w.grownBy w' none → post (.slice (some ⟨w.heap.size, 0, none⟩) n n) w') : GivesP P post ((execOp ρ o).run P w) := by
  obtain ⟨i, hi, hz0, hz1, hz2⟩ := info_parts hBT.info
  obtain ⟨w', hr, hown, hgr⟩ := run_make_full (P := P) w w.heap.size T E i (.int .u8 0) 1 hBT.slice hi hz0 hz1 k1 k2 n (by rw [hz2]; omega) (by unfold maxLen; omega) (Nat.le_refl _)
  have e1 : (madeCells (Value.int .u8 0).cells (n * 1)).toList = (List.replicate n (0 : UInt8)).map vb := by
    rw [show (Value.int .u8 0).cells = #[.int .u8 0] from rfl, toList_madeCells_one, Nat.mul_one, List.map_replicate]; rfl
  rw [e1] at hown
  refine gp_run (w' := w') (v := .slice (some ⟨w.heap.size, 0, none⟩) n n) ?_ (h w' ⟨by simpa using hown⟩ hgr)
  unfold execOp
  rw [ho]
  dsimp only
  rw [hx, hy, Sem.run_bind, hr]
  rfl

def tailT (n z : Nat) : Nat → Value → World → Prop
  | 10, v, w => ∃ a c, v = .slice a 1 c ∧ Row w a [128] c
  | 11, v, _ => v = .int .i64 (z : Int)
  | 12, v, w => ∃ a c, v = .slice a z c ∧ Row w a (List.replicate z 0) c
  | 13, v, _ => v = .int .i64 (n : Int)
  | 14, v, _ => v = vq (qOfI n)
  | 15, v, _ => v = vq (qMul (qI 8) (qOfI n))
  | 16, v, w => ∃ a c, v = .slice a 8 c ∧ Row w a (rowB (qMul (qI 8) (qOfI n)) 8) c
  | 17, v, w => ∃ g vs, v = .slice (some ⟨g, 0, none⟩) 3 3 ∧ Lib.PartsAt w ⟨g, 0, none⟩ vs [[128], List.replicate z 0, rowB (qMul (qI 8) (qOfI n)) 8]
  | 18, v, w => ∃ a c, v = .slice a (z + 9) c ∧ Row w a (128 :: (List.replicate z 0 ++ rowB (qMul (qI 8) (qOfI n)) 8)) c
  | 2, v, w => ∃ a c, v = .slice a (z + 9) c ∧ Row w a (128 :: (List.replicate z 0 ++ rowB (qMul (qI 8) (qOfI n)) 8)) c
  | _, _, _ => True
theorem tailT_stay {n z d : Nat} {v : Value} {w w' : World} (hb : Below w.heap.size w w') (h : tailT n z d v w) : tailT n z d v w' := by
  unfold tailT at *
  split at h <;> first
    | exact h
    | (obtain ⟨a, c, e, hr⟩ := h; exact ⟨a, c, e, hr.stay hb⟩)
    | (obtain ⟨a, c, e, hr⟩ := h; exact ⟨a, c, e, parts_stay hr hb⟩)
    | simp_all
theorem build_parts {ρ : Operand → Value} {o : Oper} (x y z : Operand) (h : o.op = .buildSlice 46 3 #[(0, x), (1, y), (2, z)]) {a b c : Option Addr} {l m n p q r : Nat} (hx : ρ x = .slice a l p) (hy : ρ y = .slice b m q) (hz : ρ z = .slice c n r) (wx : World) :
    (execOp ρ o).run Try.prog wx = .ok (.value (.slice (some ⟨wx.heap.size, 0, none⟩) 3 3)) (wx.alloc (.cells #[.slice a l p, .slice b m q, .slice c n r] 25)) := by
  unfold execOp
  rw [h]
  dsimp only
  go_simp
theorem build_byte {ρ : Operand → Value} {o : Oper} (x : Operand) (h : o.op = .buildSlice 25 1 #[(0, x)]) {y : UInt8} (hx : ρ x = vb y) (wx : World) :
    (execOp ρ o).run Try.prog wx = .ok (.value (.slice (some ⟨wx.heap.size, 0, none⟩) 1 1)) (wx.alloc (.cells #[vb y] 5)) := by
  unfold execOp
  rw [h]
  dsimp only
  go_simp

set_option maxRecDepth 100000 in
set_option maxHeartbeats 4000000 in
theorem tail_calls (w : World) (n : Nat) (hn : n ≤ 1000000000) :
    Calls Try.prog 23 #[.int .i64 (n : Int)] w fun e w' => ∃ a c, e = .returned (.slice a (tailB n).length c) ∧ Row w' a (tailB n) c ∧ Below w.heap.size w w' := by
  obtain ⟨z, hz⟩ : ∃ z, Hid (z = (119 - n % 64) % 64) := ⟨_, rfl⟩
  have hz9 : z < 64 := by rw [hz.out]; omega
  have t1 : decide ((n : Int) < 0) = false := by simp
  have e1 : (n : Int).tmod 64 = ((n % 64 : Nat) : Int) := by rw [Int.tmod_eq_emod_of_nonneg (by omega)]; omega
  have e2 : IntKind.i64.wrap (119 - ((n % 64 : Nat) : Int)) = ((119 - n % 64 : Nat) : Int) := by rw [show (119 : Int) - ((n % 64 : Nat) : Int) = ((119 - n % 64 : Nat) : Int) by omega]; exact IntWalk.i64_in _ (by omega)
  go_enter Try.func23, Try.ntmps23
  go_wp2_with fail
  have hz3 : (119 - (n : Int) % 64) % 64 = (z : Int) := by rw [hz.out]; omega
  rw [hz3]
  have hlen : (tailB n).length = z + 9 := by unfold tailB; rw [← hz.out]; simp [rowB_length]
  have HL := Lib.hid hlen
  have HTB : Hid (128 :: (List.replicate z 0 ++ rowB (qMul (qI 8) (qOfI n)) 8) = tailB n) := by unfold tailB; rw [← hz.out]; rfl
  clear e1 e2 hz3 hlen
  refine wp_region_ph (fun _ wx => Below w.heap.size w wx) (fun _ wx w' => Below wx.heap.size wx w') (tailT n z) (by kernel_rfl) (by kernel_rfl) ?_ ?_ ?_ ?_
  · intro w' hb hh
    exact hb
  · intro δ i j o v w1 w2 _ _ _ _ _ _ hG h
    rcases hd : o.dst with _ | d
    · exact tyP_none hd _ _
    · rw [tyP_some hd] at h ⊢
      exact tailT_stay hG h
  · refine opsAll_cons ?_ (opsAll_cons ?_ (opsAll_cons ?_ (opsAll_cons ?_ (opsAll_cons ?_ (opsAll_cons ?_ (opsAll_cons ?_ (opsAll_cons ?_ (opsAll_cons ?_ (opsAll_cons ?_ opsAll_nil)))))))))
    all_goals intro δ wa wx hk
    · refine ⟨wanted_free rfl, gp_run (build_byte (.const (.int .u8 128)) rfl (y := 128) (hk.lit _) wx) ?_⟩
      have hb : Below wx.heap.size wx (wx.alloc (.cells #[vb 128] 5)) := (Below.refl _ wx).alloc (Nat.le_refl _) _
      exact ⟨hb, hk.inv.trans (hb.mono hk.inv.size), _, _, rfl, row_new wx _ _ _ [128] rfl (by decide)⟩
    · exact ⟨wanted_free rfl, gp_move (.tmp 3) rfl ⟨Below.refl _ _, hk.inv, hk.old 3 (by kernel_rfl)⟩⟩
    · refine ⟨wanted_free rfl, gp_make bt (.tmp 11) (.tmp 11) rfl z (hk.slot 11 (by kernel_rfl)) (hk.slot 11 (by kernel_rfl)) (by omega) ?_⟩
      intro w' ho hg
      have hb : Below wx.heap.size wx w' := ⟨hg.os, hg.tape, hg.output, hg.size, fun k hk => hg.block k hk (by simp)⟩
      have hr := ho.isRow
      exact ⟨hb, hk.inv.trans (hb.mono hk.inv.size), _, _, rfl, hr⟩
    · exact ⟨wanted_free rfl, gp_move (.tmp 0) rfl ⟨Below.refl _ _, hk.inv, hk.old 0 (by kernel_rfl)⟩⟩
    · refine ⟨wanted_free rfl, ?_⟩
      have e13 : wa.eval (.tmp 13) = _ := hk.slot 13 (by kernel_rfl)
      refine gp_run (v := vq (qOfI n)) (w' := wx) ?_ ⟨Below.refl _ _, hk.inv, rfl⟩
      unfold execOp
      dsimp only
      rw [e13]
      go_simp
      rw [wrap_u64_eq, qOfI_nat]
    · refine ⟨wanted_free rfl, gp_bin rfl (hk.lit _) (hk.slot 14 (by kernel_rfl)) (v := vq (qMul (qI 8) (qOfI n))) (fun w => ?_) ⟨Below.refl _ _, hk.inv, rfl⟩⟩
      go_simp
    · refine ⟨wanted_free rfl, gp_call rfl (hk.fn _) #[vq (qMul (qI 8) (qOfI n))] (fun w => by kernel_rfl) (by simp [show wa.eval (.tmp 15) = _ from hk.slot 15 (by kernel_rfl)]) ((put64_calls wx _).mono ?_)⟩
      rintro e w' ⟨a, c, rfl, ho, hb⟩
      exact ⟨_, rfl, hb, hk.inv.trans (hb.mono hk.inv.size), a, c, rfl, ho.isRow⟩
    · obtain ⟨a1, c1, e1, r1⟩ := hk.slot 10 (by kernel_rfl)
      obtain ⟨a2, c2, e2, r2⟩ := hk.slot 12 (by kernel_rfl)
      obtain ⟨a3, c3, e3, r3⟩ := hk.slot 16 (by kernel_rfl)
      refine ⟨wanted_free rfl, gp_run (build_parts (.tmp 10) (.tmp 12) (.tmp 16) rfl e1 e2 e3 wx) ?_⟩
      have hb : Below wx.heap.size wx (wx.alloc (.cells #[.slice a1 1 c1, .slice a2 z c2, .slice a3 8 c3] 25)) := (Below.refl _ wx).alloc (Nat.le_refl _) _
      refine ⟨hb, hk.inv.trans (hb.mono hk.inv.size), wx.heap.size, [.slice a1 1 c1, .slice a2 z c2, .slice a3 8 c3], rfl, ?_⟩
      refine parts_new wx _ _ _ rfl (fun i v l hv hl => ?_)
      match i with
      | 0 => simp at hv hl; subst hv hl; exact holds_of_row (l := [128]) r1
      | 1 => simp at hv hl; subst hv hl; have := holds_of_row r2; rwa [List.length_replicate] at this
      | 2 => simp at hv hl; subst hv hl; have := holds_of_row r3; rwa [rowB_length] at this
      | i + 3 => simp at hv
    · obtain ⟨g, vs, e17, hp⟩ := hk.slot 17 (by kernel_rfl)
      have hc := cat_calls wx g 0 3 vs _ hp (by simp) (by simp [rowB_length]; omega) (by simp)
      have hfl : ([[128], List.replicate z 0, rowB (qMul (qI 8) (qOfI n)) 8] : List (List UInt8)).flatten = 128 :: (List.replicate z 0 ++ rowB (qMul (qI 8) (qOfI n)) 8) := by simp
      rw [hfl] at hc
      have hl9 : (128 :: (List.replicate z 0 ++ rowB (qMul (qI 8) (qOfI n)) 8) : List UInt8).length = z + 9 := by simp [rowB_length]
      rw [hl9] at hc
      refine ⟨wanted_free rfl, gp_call rfl (hk.fn _) #[.slice (some ⟨g, 0, none⟩) 3 3] (fun w => by kernel_rfl) (by simp [e17]) (hc.mono ?_)⟩
      rintro e w' ⟨a, c, rfl, hm, hb⟩
      exact ⟨_, rfl, hb, hk.inv.trans (hb.mono hk.inv.size), a, c, rfl, hm.row⟩
    · exact ⟨wanted_free rfl, gp_assign (.tmp 18) rfl ⟨Below.refl _ _, hk.inv, hk.slot 18 (by kernel_rfl)⟩⟩
  intro δ wa wx hall hC hsame hT
  obtain ⟨a, c, e2, hr⟩ := hT 2 (by kernel_rfl)
  have hd := hsame.1
  rename_i hK
  refine hK wa wx ?_
  apply wp_ret
  refine bodyPost_ret (results_tmp rfl _ _ _) hd ⟨a, c, ?_, by rw [← HTB.out]; exact hr, hC⟩
  show Ending.returned (wa.eval (.tmp 2)) = _
  rw [e2, HL.out]
end Go.Proofs.Ytiemafgnpmoblaa
