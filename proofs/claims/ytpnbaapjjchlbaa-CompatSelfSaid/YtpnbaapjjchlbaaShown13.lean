/- Chapter 13's law: shown: walked. -/
import Derived.Test.YtpnbaapjjchlbaaPart13
import Derived.Test.YtpnbaapjjchlbaaPickC
import Derived.Test.YtpnbaapjjchlbaaAwk12
import Derived.Test.YtpnbaapjjchlbaaPartBox
import Derived.Test.YtpnbaapjjchlbaaRefBoth
namespace Go.Proofs.Ytpnbaapjjchlbaa
open Go Go.RowKit Go.Cit

@[reducible] def cU (U : CfgV) : Array Value := #[.slice U.wa U.ws.length U.wc, .slice U.pa U.ps.length U.pc, .slice U.ca U.cs.length U.cc]
/-- A configuration of one's own whose fields are K's. -/
def cfgOk (K : Cfg) (N : Nat) (U : CfgV) (w : World) : Prop := U.cfg = K ∧ OwnedV N w U
def isCf (K : Cfg) (N : Nat) (v : Value) (w : World) : Prop := ∃ U : CfgV, v = .agg (cU U) ∧ cfgOk K N U w
def isCbx (K : Cfg) (N : Nat) (C : Array Value) (w : World) : Prop := ∃ U : CfgV, C = cU U ∧ cfgOk K N U w
theorem ownedv_bx {N : Nat} {W w w' : World} {U : CfgV} {b : Boxes} (hb : ∀ j, j < b.nb → b.ty j = 26) (hG : bxG b W w w') (h : OwnedV N w U) : OwnedV N w' U :=
  ⟨vown_bx h.win hG (fun j hj => by rw [hb j hj]; exact neW), vown_bx h.pts hG (fun j hj => by rw [hb j hj]; exact neP), vown_bx h.chs hG (fun j hj => by rw [hb j hj]; exact neC), fun x hx => own_bx (h.img x hx) hG (fun j hj => by rw [hb j hj]; exact neU)⟩
theorem isCf_bx {K : Cfg} {N : Nat} {v : Value} {W w w' : World} {b : Boxes} (hb : ∀ j, j < b.nb → b.ty j = 26) (hG : bxG b W w w') : isCf K N v w → isCf K N v w' := fun ⟨U, e, h⟩ => ⟨U, e, h.1, ownedv_bx hb hG h.2⟩
theorem isCbx_bx {K : Cfg} {N : Nat} {C : Array Value} {W w w' : World} {b : Boxes} (hb : ∀ j, j < b.nb → b.ty j = 26) (hG : bxG b W w w') : isCbx K N C w → isCbx K N C w' := fun ⟨U, e, h⟩ => ⟨U, e, h.1, ownedv_bx hb hG h.2⟩
theorem storeCf (ρ : Operand → Value) (o : Oper) (wx : World) (p s : Operand) (h : o.op = .store 26 p s) {U : CfgV} {g : Nat} {D : Array Value} (hg : ρ p = .pointer (some ⟨g, 0, none⟩)) (hs : ρ s = .agg (cU U))
    (hD : wx.heap[g]? = some (.cells D 26 (0, 0))) (hDs : D.size = (cU U).size) :
    ∃ w', (execOp ρ o).run Try.prog wx = .ok .skip w' ∧ w'.heap[g]? = some (.cells (cU U) 26 (0, 0)) ∧ Save (· ≠ g) wx w' := by
  have hr := run_storeVar_row (P := Try.prog) wx g 26 26 D (cU U) hD (by kernel_rfl) hDs (by simp [Value.oneCell'])
  refine ⟨wx.setRow g (cU U), ?_, setRow_same hD, setRow_save _ _ _⟩
  unfold execOp
  simp only [h, hg, hs, Sem.run_bind, Instr.storeAt, Instr.sureAddr, Sem.run_pure, Result.andThen, hr]
theorem gp_vlit {α : Type} {f : α → List Value} {P : Program} {T E : TypeId} {n by_ : Nat} {z : Value} (hE : ElemType P T E n by_ z) (hf : ∀ x, (f x).length = n) {o : Oper} {ρ : Operand → Value} {w : World} {post : Value → World → Prop} (xs : List Operand) (vs : List Value) (k : Nat) (l : List α)
    (ho : o.op = .buildSlice T k ((xs.zipIdx 0).map fun x => (x.2, x.1)).toArray) (hx : xs.map ρ = vs) (hk : vs.length = k) (h0 : 0 < k) (hs : ∀ v ∈ vs, v.cells.size = n) (hk9 : k * n ≤ 2 ^ 24) (hl : l.length = k) (hc : (vs.flatMap fun v => v.cells.toList).toArray = (l.flatMap f).toArray)
    (hp : post (.slice (some ⟨w.heap.size, 0, none⟩) k k) (w.alloc (.cells (l.flatMap f).toArray E))) : GivesP P post ((execOp ρ o).run P w) := by
  have hr := run_vbuild hE (ρ := ρ) xs vs k ho hx hk h0 hs hk9 w
  rw [hc] at hr
  exact gp_run hr hp
theorem cbuildC (ρ : Operand → Value) (o : Oper) (w : World) (x y z : Operand) (h : o.op = .build 26 #[(0, x), (1, y), (2, z)]) (a a' a'' : Option Addr) (n n' n'' c c' c'' : Nat) (hx : ρ x = .slice a n c) (hy : ρ y = .slice a' n' c') (hz : ρ z = .slice a'' n'' c'') :
    (execOp ρ o).run Try.prog w = .ok (.value (.agg #[.slice a n c, .slice a' n' c', .slice a'' n'' c''])) w := by
  unfold execOp; rw [h]
  simp only [List.map_toArray, List.map_cons, List.map_nil, hx, hy, hz]
  kernel_rfl
theorem resBB {P : Program} {fn : Func} {tmps : Array Value} {w : World} {T E1 E2 : TypeId} {n b1 b2 a1 a2 : Nat} {C D : Array Value} {f1 f2 : Nat × Nat} (hT : RowType P T n) (hf : fn.results = #[.cell a1 T, .cell a2 T]) (h1 : tmps.getD a1 undef = .pointer (some ⟨b1, 0, none⟩)) (h2 : tmps.getD a2 undef = .pointer (some ⟨b2, 0, none⟩)) (hb1 : w.heap[b1]? = some (.cells C E1 f1)) (hb2 : w.heap[b2]? = some (.cells D E2 f2)) (hC : C.size = n) (hD : D.size = n) :
    (results fn tmps).run P w = .ok (.tuple #[.agg C, .agg D]) w := by
  obtain ⟨⟨d, hu, hd⟩, hi⟩ := hT
  have hr1 := run_loadB (P := P) hu hd (by rw [hi, hC]) hb1
  have hr2 := run_loadB (P := P) hu hd (by rw [hi, hD]) hb2
  have e1 : tmps[a1]?.getD undef = .pointer (some ⟨b1, 0, none⟩) := by rw [← Array.getD_eq_getD_getElem?]; exact h1
  have e2 : tmps[a2]?.getD undef = .pointer (some ⟨b2, 0, none⟩) := by rw [← Array.getD_eq_getD_getElem?]; exact h2
  simp [results, hf, e1, e2, asAddr, hr1, hr2]
theorem OwnedV.saved {N : Nat} {w w' : World} {U : CfgV} {S : Nat → Prop} (h : OwnedV N w U) (hs : Save S w w') (hS : ∀ (g : Nat) (C : Array Value) (E : TypeId), w.heap[g]? = some (.cells C E (0, 0)) → (E : Nat) ≠ 26 → S g) : OwnedV N w' U :=
  ⟨h.win.save hs (fun g hg => by obtain ⟨C, hC⟩ := vown_block h.win hg; exact hS g C _ hC neW), h.pts.save hs (fun g hg => by obtain ⟨C, hC⟩ := vown_block h.pts hg; exact hS g C _ hC neP), h.chs.save hs (fun g hg => by obtain ⟨C, hC⟩ := vown_block h.chs hg; exact hS g C _ hC neC),
    fun x hx => (h.img x hx).save hs (fun g hg => by obtain ⟨C, hC⟩ := vown_block (h.img x hx).vown hg; exact hS g C _ hC neU)⟩
def i3 : I64 := ⟨3, by decide⟩
def i4 : I64 := ⟨4, by decide⟩
def i32 : I64 := ⟨32, by decide⟩
def i48 : I64 := ⟨48, by decide⟩
@[reducible] def ptK (i b s : I64) (k : Bool) : PtV := ⟨i, ⟨b, s⟩, k, none, [], 0⟩
def win11 : Win := ⟨i1, i1⟩
def chA : Ch := ⟨i1, i1, i2, i1, i1⟩
def chB : Ch := ⟨i2, i1, i3, i1, i1⟩
def cfgA13 : Cfg := ⟨[win11], [ptK i1 i0 i16 true, ptK i2 i16 i32 true, ptK i3 i48 i16 false].map PtV.pt, [chA, chB]⟩
def cfgB13 : Cfg := ⟨[win11], [ptK i1 i0 i16 true, ptK i2 i16 i32 false, ptK i4 i48 i16 false].map PtV.pt, [chA]⟩
def sh3B : Boxes := ⟨1, fun _ => 9, fun _ => 10, fun _ => 4, fun _ => 26, fun _ => #[.slice none 0 0, .slice none 0 0, .slice none 0 0]⟩
def sh3T (n N : Nat) : Nat → Value → World → Prop
  | 9, v, _ => v = .slice (some ⟨n, 0, none⟩) 1 1
  | 10, v, _ => v = .agg (cA (ptK i1 i0 i16 true))
  | 11, v, _ => v = .agg (cA (ptK i2 i16 i32 true))
  | 12, v, _ => v = .agg (cA (ptK i3 i48 i16 false))
  | 13, v, w => ∃ g, v = .slice (some ⟨g, 0, none⟩) 3 3 ∧ VOwn cPt 5 43 N w (some ⟨g, 0, none⟩) [ptK i1 i0 i16 true, ptK i2 i16 i32 true, ptK i3 i48 i16 false] 3
  | 14, v, _ => v = .agg (cA5 chA)
  | 15, v, _ => v = .agg (cA5 chB)
  | 16, v, w => ∃ g, v = .slice (some ⟨g, 0, none⟩) 2 2 ∧ VOwn cCh 5 54 N w (some ⟨g, 0, none⟩) [chA, chB] 2
  | 17, v, w => isCf cfgA13 N v w
  | _, _, _ => True
theorem sh3T_bx {n N : Nat} {d : Nat} {v : Value} {W w w' : World} (hG : bxG sh3B W w w') (h : sh3T n N d v w) : sh3T n N d v w' := by
  unfold sh3T at *
  split at h
  all_goals first
    | exact h
    | (obtain ⟨g, e, h⟩ := h; exact ⟨g, e, vown_bx h hG (fun _ _ => neP)⟩)
    | (obtain ⟨g, e, h⟩ := h; exact ⟨g, e, vown_bx h hG (fun _ _ => neC)⟩)
    | exact isCf_bx (fun _ _ => rfl) hG h
    | trivial
def sh4B : Boxes := ⟨1, fun _ => 8, fun _ => 9, fun _ => 5, fun _ => 26, fun _ => #[.slice none 0 0, .slice none 0 0, .slice none 0 0]⟩
def sh4T (n N : Nat) : Nat → Value → World → Prop
  | 18, v, _ => v = .slice (some ⟨n, 0, none⟩) 1 1
  | 19, v, _ => v = .agg (cA (ptK i1 i0 i16 true))
  | 20, v, _ => v = .agg (cA (ptK i2 i16 i32 false))
  | 21, v, _ => v = .agg (cA (ptK i4 i48 i16 false))
  | 22, v, w => ∃ g, v = .slice (some ⟨g, 0, none⟩) 3 3 ∧ VOwn cPt 5 43 N w (some ⟨g, 0, none⟩) [ptK i1 i0 i16 true, ptK i2 i16 i32 false, ptK i4 i48 i16 false] 3
  | 23, v, _ => v = .agg (cA5 chA)
  | 24, v, w => ∃ g, v = .slice (some ⟨g, 0, none⟩) 1 1 ∧ VOwn cCh 5 54 N w (some ⟨g, 0, none⟩) [chA] 1
  | 25, v, w => isCf cfgB13 N v w
  | _, _, _ => True
theorem sh4T_bx {n N : Nat} {d : Nat} {v : Value} {W w w' : World} (hG : bxG sh4B W w w') (h : sh4T n N d v w) : sh4T n N d v w' := by
  unfold sh4T at *
  split at h
  all_goals first
    | exact h
    | (obtain ⟨g, e, h⟩ := h; exact ⟨g, e, vown_bx h hG (fun _ _ => neP)⟩)
    | (obtain ⟨g, e, h⟩ := h; exact ⟨g, e, vown_bx h hG (fun _ _ => neC)⟩)
    | exact isCf_bx (fun _ _ => rfl) hG h
    | trivial
def sh5 (A C : CfgV) (_ _ _ : Nat) : Nat → Value
  | 26 => (.agg (cU A))
  | 27 => (.agg (cU C))
  | _ => undef
def sh5o (_ _ : CfgV) (B g4 g5 : Nat) : Nat → Value
  | 0 => (.pointer (some ⟨B, 0, none⟩))
  | 1 => (.pointer (some ⟨B + 1, 0, none⟩))
  | 4 => (.pointer (some ⟨g4, 0, none⟩))
  | 5 => (.pointer (some ⟨g5, 0, none⟩))
  | _ => undef
set_option maxRecDepth 100000 in
set_option maxHeartbeats 4000000 in
theorem shown13_calls (w : World) : Calls Try.prog 81 #[] w fun e w' => ∃ A B : CfgV, e = .returned (.tuple #[.agg (cU A), .agg (cU B)]) ∧ A.cfg = cfgA13 ∧ B.cfg = cfgB13 ∧ A.At w' ∧ B.At w' ∧ Below w.heap.size w w' := by
  obtain ⟨N, hN⟩ : ∃ N, N = w.heap.size := ⟨_, rfl⟩
  obtain ⟨w0, hw0⟩ : ∃ w0, w0 = (((w.alloc (.cells #[.slice none 0 0, .slice none 0 0, .slice none 0 0] 26)).alloc (.cells #[.slice none 0 0, .slice none 0 0, .slice none 0 0] 26)).alloc (.cells #[.int .i64 1, .int .i64 1] 52)).alloc (.cells #[.int .i64 1, .int .i64 1, .int .i64 2, .int .i64 1, .int .i64 1] 54) := ⟨_, rfl⟩
  obtain ⟨n, hn⟩ : ∃ n, n = w.heap.size + 1 + 1 := ⟨_, rfl⟩
  have B0 : Below w.heap.size w w0 := by rw [hw0]; exact (((((Below.refl _ w).alloc (Nat.le_refl _) _).alloc (by simp) _).alloc (by simp; omega) _).alloc (by simp; omega) _)
  have hx0 : w0.heap[N]? = some (.cells #[.slice none 0 0, .slice none 0 0, .slice none 0 0] 26 (0, 0)) := by
    rw [hw0, hN]; exact (Below.heap_alloc _ _ _ (by simp; omega)).trans ((Below.heap_alloc _ _ _ (by simp; omega)).trans ((Below.heap_alloc _ _ _ (by simp)).trans (heap_alloc_new w _)))
  have hx1 : w0.heap[N + 1]? = some (.cells #[.slice none 0 0, .slice none 0 0, .slice none 0 0] 26 (0, 0)) := by
    have := heap_alloc_new (w.alloc (.cells #[.slice none 0 0, .slice none 0 0, .slice none 0 0] 26)) (.cells #[.slice none 0 0, .slice none 0 0, .slice none 0 0] 26)
    rw [World.size_alloc] at this
    rw [hw0, hN]; exact (Below.heap_alloc _ _ _ (by simp)).trans ((Below.heap_alloc _ _ _ (by simp)).trans this)
  have hx2 : w0.heap[n]? = some (.cells #[.int .i64 1, .int .i64 1] 52 (0, 0)) := by
    have := heap_alloc_new ((w.alloc (.cells #[.slice none 0 0, .slice none 0 0, .slice none 0 0] 26)).alloc (.cells #[.slice none 0 0, .slice none 0 0, .slice none 0 0] 26)) (.cells #[.int .i64 1, .int .i64 1] 52)
    rw [World.size_alloc, World.size_alloc] at this
    rw [hw0, hn]; exact (Below.heap_alloc _ _ _ (by simp)).trans this
  have h3 : w0.heap[n + 1]? = some (.cells #[.int .i64 1, .int .i64 1, .int .i64 2, .int .i64 1, .int .i64 1] 54 (0, 0)) := by
    have := heap_alloc_new (((w.alloc (.cells #[.slice none 0 0, .slice none 0 0, .slice none 0 0] 26)).alloc (.cells #[.slice none 0 0, .slice none 0 0, .slice none 0 0] 26)).alloc (.cells #[.int .i64 1, .int .i64 1] 52)) (.cells #[.int .i64 1, .int .i64 1, .int .i64 2, .int .i64 1, .int .i64 1] 54)
    rw [World.size_alloc, World.size_alloc, World.size_alloc] at this
    rw [hw0, hn]; exact this
  have hw2 : VOwn cWin 2 52 N w0 (some ⟨n, 0, none⟩) [win11] 1 := vown_of_blk (l := [win11]) cWin_len (by omega) (by decide) hx2 rfl
  have hNs : N ≤ w0.heap.size := by rw [hN]; exact B0.size
  have HX := Lib.hid (And.intro hx0 (And.intro hx1 B0))
  clear hx0 hx1 hx2 B0
  go_enter Try.func81, Try.ntmps81
  go_wp2_with ((with_reducible refine wpList_value (o := ⟨some 7, .buildSlice _ _ _, _, _, _, _⟩) (by with_unfolding_all rfl) (build1c etW (.tmp 6) (.agg #[.int .i64 1, .int .i64 1]) #[.int .i64 1, .int .i64 1] rfl (by with_unfolding_all rfl) (by with_unfolding_all rfl) (by with_unfolding_all rfl) (by decide) _) ?_))
  rw [← hw0, ← hn]
  clear hw0 hn
  refine wp_region_boxes sh3B (fun _ => isCbx cfgA13 N) (sh3T n N) (by kernel_rfl) (by kernel_rfl) (by kernel_rfl) (fun _ _ _ _ hG h => sh3T_bx hG h) (fun _ _ _ _ hG h => isCbx_bx (fun _ _ => rfl) hG h) ?_ ?_ (fun j hj => by
      have : j = 0 := by have : j < 1 := hj; omega
      subst this; exact ⟨by decide, by decide⟩)
  · refine opsAll_cons ?_ (opsAll_cons ?_ (opsAll_cons ?_ (opsAll_cons ?_ (opsAll_cons ?_ (opsAll_cons ?_ (opsAll_cons ?_ (opsAll_cons ?_ (opsAll_cons ?_ (opsAll_cons ?_ (opsAll_cons ?_ opsAll_nil))))))))))
    all_goals intro δ wa wx hk
    · exact .inl ⟨wanted_free rfl, fun _ _ => ⟨by show (_ : Nat) ≠ 9; decide, by show (_ : Nat) ≠ 10; decide, by show _ ≠ some (4 : Nat); decide⟩, gp_move (.tmp 2) rfl ⟨Below.refl _ _, hk.old 2 (by kernel_rfl)⟩⟩
    · exact .inl ⟨wanted_free rfl, fun _ _ => ⟨by show (_ : Nat) ≠ 9; decide, by show (_ : Nat) ≠ 10; decide, by show _ ≠ some (4 : Nat); decide⟩, gp_call rfl rfl #[.int .i64 1, .int .i64 0, .int .i64 16, .bool true] (fun w => by kernel_rfl) (by rw [List.map_toArray]; rfl) ((part13_calls wx 1 0 16 true).mono fun e w' ⟨he, hb⟩ => ⟨_, he, hb, rfl⟩)⟩
    · exact .inl ⟨wanted_free rfl, fun _ _ => ⟨by show (_ : Nat) ≠ 9; decide, by show (_ : Nat) ≠ 10; decide, by show _ ≠ some (4 : Nat); decide⟩, gp_call rfl rfl #[.int .i64 2, .int .i64 16, .int .i64 32, .bool true] (fun w => by kernel_rfl) (by rw [List.map_toArray]; rfl) ((part13_calls wx 2 16 32 true).mono fun e w' ⟨he, hb⟩ => ⟨_, he, hb, rfl⟩)⟩
    · exact .inl ⟨wanted_free rfl, fun _ _ => ⟨by show (_ : Nat) ≠ 9; decide, by show (_ : Nat) ≠ 10; decide, by show _ ≠ some (4 : Nat); decide⟩, gp_call rfl rfl #[.int .i64 3, .int .i64 48, .int .i64 16, .bool false] (fun w => by kernel_rfl) (by rw [List.map_toArray]; rfl) ((part13_calls wx 3 48 16 false).mono fun e w' ⟨he, hb⟩ => ⟨_, he, hb, rfl⟩)⟩
    · exact .inl ⟨wanted_free rfl, fun _ _ => ⟨by show (_ : Nat) ≠ 9; decide, by show (_ : Nat) ≠ 10; decide, by show _ ≠ some (4 : Nat); decide⟩, gp_vlit etP cPt_len [.tmp 10, .tmp 11, .tmp 12] [.agg (cA (ptK i1 i0 i16 true)), .agg (cA (ptK i2 i16 i32 true)), .agg (cA (ptK i3 i48 i16 false))] 3 [ptK i1 i0 i16 true, ptK i2 i16 i32 true, ptK i3 i48 i16 false] rfl (by simp only [List.map_cons, List.map_nil, show wa.eval (.tmp 10) = _ from hk.slot 10 (by kernel_rfl), show wa.eval (.tmp 11) = _ from hk.slot 11 (by kernel_rfl), show wa.eval (.tmp 12) = _ from hk.slot 12 (by kernel_rfl)]) rfl (by decide) (by intro v hv; simp at hv; rcases hv with rfl | rfl | rfl <;> rfl) (by decide) rfl rfl ⟨(Below.refl _ wx).alloc (Nat.le_refl _) _, _, rfl, (vown_lit wx _ 43 5 [ptK i1 i0 i16 true, ptK i2 i16 i32 true, ptK i3 i48 i16 false] cPt_len rfl (by decide)).low (Nat.le_trans hNs hk.inv.1.size)⟩⟩
    · exact .inl ⟨wanted_free rfl, fun _ _ => ⟨by show (_ : Nat) ≠ 9; decide, by show (_ : Nat) ≠ 10; decide, by show _ ≠ some (4 : Nat); decide⟩, gp_load (.tmp 3) rfl (hk.old 3 (by kernel_rfl)) (load5 (fun w => by kernel_rfl) (fun w => by kernel_rfl) (keep hk.inv.1 (cells_of h3 0 rfl)) (keep hk.inv.1 (cells_of h3 1 rfl)) (keep hk.inv.1 (cells_of h3 2 rfl)) (keep hk.inv.1 (cells_of h3 3 rfl)) (keep hk.inv.1 (cells_of h3 4 rfl))) ⟨Below.refl _ _, rfl⟩⟩
    · exact .inl ⟨wanted_free rfl, fun _ _ => ⟨by show (_ : Nat) ≠ 9; decide, by show (_ : Nat) ≠ 10; decide, by show _ ≠ some (4 : Nat); decide⟩, gp_run (w' := wx) (v := .agg (cA5 chB)) (by kernel_rfl) ⟨Below.refl _ _, rfl⟩⟩
    · exact .inl ⟨wanted_free rfl, fun _ _ => ⟨by show (_ : Nat) ≠ 9; decide, by show (_ : Nat) ≠ 10; decide, by show _ ≠ some (4 : Nat); decide⟩, gp_vlit etC cCh_len [.tmp 14, .tmp 15] [.agg (cA5 chA), .agg (cA5 chB)] 2 [chA, chB] rfl (by simp only [List.map_cons, List.map_nil, show wa.eval (.tmp 14) = _ from hk.slot 14 (by kernel_rfl), show wa.eval (.tmp 15) = _ from hk.slot 15 (by kernel_rfl)]) rfl (by decide) (by intro v hv; simp at hv; rcases hv with rfl | rfl <;> rfl) (by decide) rfl rfl ⟨(Below.refl _ wx).alloc (Nat.le_refl _) _, _, rfl, (vown_lit wx _ 54 5 [chA, chB] cCh_len rfl (by decide)).low (Nat.le_trans hNs hk.inv.1.size)⟩⟩
    · obtain ⟨gp, ep, hp⟩ := hk.slot 13 (by kernel_rfl)
      obtain ⟨gc, ec, hc⟩ := hk.slot 16 (by kernel_rfl)
      exact .inl ⟨wanted_free rfl, fun _ _ => ⟨by show (_ : Nat) ≠ 9; decide, by show (_ : Nat) ≠ 10; decide, by show _ ≠ some (4 : Nat); decide⟩, gp_run (cbuildC _ _ _ _ _ _ rfl _ _ _ _ _ _ _ _ _ (hk.slot 9 (by kernel_rfl)) ep ec) ⟨Below.refl _ _, ⟨some ⟨n, 0, none⟩, [win11], 1, some ⟨gp, 0, none⟩, [ptK i1 i0 i16 true, ptK i2 i16 i32 true, ptK i3 i48 i16 false], 3, some ⟨gc, 0, none⟩, [chA, chB], 2⟩, rfl, rfl, hw2.stay hk.inv.1, hp, hc, fun x hx => by
        have : x.a = none ∧ x.img = [] ∧ x.c = 0 := by
          simp only [List.mem_cons, List.not_mem_nil, or_false] at hx
          rcases hx with rfl | rfl | rfl <;> exact ⟨rfl, rfl, rfl⟩
        rw [this.1, this.2.1, this.2.2]; exact Cit.Own.nil 5 N _⟩⟩
    · exact .inr (.inl ⟨0, by decide, rfl, rfl, rfl, calloc3 _ _ _ rfl, fun _ _ => trivial⟩)
    · obtain ⟨U, eU, hU⟩ := hk.slot 17 (by kernel_rfl)
      exact .inr (.inr ⟨0, cU U, by decide, rfl, rfl, rfl, ⟨U, rfl, hU⟩, rfl, fun g D hg hD hDs => storeCf _ _ _ _ _ rfl hg eU hD hDs⟩)
  intro a wz hbz hsame hall hbox
  obtain ⟨p1, C1, ep1, hpl1, hC1, hX1, _⟩ := hbox 0 (by decide)
  obtain ⟨U1, rfl, hU1⟩ := hX1
  have he := act_same hsame [9, 10, 11, 12, 13, 14, 15, 16, 17, 4] (by kernel_rfl)
  simp only [List.foldl_cons, List.foldl_nil] at he
  rw [show a.eval (.tmp 4) = _ from ep1] at he
  generalize a.eval (.tmp 9) = y9 at he
  generalize a.eval (.tmp 10) = y10 at he
  generalize a.eval (.tmp 11) = y11 at he
  generalize a.eval (.tmp 12) = y12 at he
  generalize a.eval (.tmp 13) = y13 at he
  generalize a.eval (.tmp 14) = y14 at he
  generalize a.eval (.tmp 15) = y15 at he
  generalize a.eval (.tmp 16) = y16 at he
  generalize a.eval (.tmp 17) = y17 at he
  simp only [put_lit] at he
  dsimp only [List.set_cons_zero, List.set_cons_succ] at he
  subst he
  have HG := Lib.hid (And.intro hC1 (And.intro hU1 hbz))
  have hw2 := hw2.stay hbz
  have h3 := blk_stay h3 hbz
  have hNs : N ≤ wz.heap.size := Nat.le_trans hNs hbz.size
  clear hsame hall hbox ep1 hbz hC1 hU1
  go_wp2_with fail
  refine wp_region_boxes sh4B (fun _ => isCbx cfgB13 N) (sh4T n N) (by kernel_rfl) (by kernel_rfl) (by kernel_rfl) (fun _ _ _ _ hG h => sh4T_bx hG h) (fun _ _ _ _ hG h => isCbx_bx (fun _ _ => rfl) hG h) ?_ ?_ (fun j hj => by
      have : j = 0 := by have : j < 1 := hj; omega
      subst this; exact ⟨by decide, by decide⟩)
  · refine opsAll_cons ?_ (opsAll_cons ?_ (opsAll_cons ?_ (opsAll_cons ?_ (opsAll_cons ?_ (opsAll_cons ?_ (opsAll_cons ?_ (opsAll_cons ?_ (opsAll_cons ?_ (opsAll_cons ?_ opsAll_nil)))))))))
    all_goals intro δ wa wx hk
    · exact .inl ⟨wanted_free rfl, fun _ _ => ⟨by show (_ : Nat) ≠ 8; decide, by show (_ : Nat) ≠ 9; decide, by show _ ≠ some (5 : Nat); decide⟩, gp_move (.tmp 2) rfl ⟨Below.refl _ _, hk.old 2 (by kernel_rfl)⟩⟩
    · exact .inl ⟨wanted_free rfl, fun _ _ => ⟨by show (_ : Nat) ≠ 8; decide, by show (_ : Nat) ≠ 9; decide, by show _ ≠ some (5 : Nat); decide⟩, gp_call rfl rfl #[.int .i64 1, .int .i64 0, .int .i64 16, .bool true] (fun w => by kernel_rfl) (by rw [List.map_toArray]; rfl) ((part13_calls wx 1 0 16 true).mono fun e w' ⟨he, hb⟩ => ⟨_, he, hb, rfl⟩)⟩
    · exact .inl ⟨wanted_free rfl, fun _ _ => ⟨by show (_ : Nat) ≠ 8; decide, by show (_ : Nat) ≠ 9; decide, by show _ ≠ some (5 : Nat); decide⟩, gp_call rfl rfl #[.int .i64 2, .int .i64 16, .int .i64 32, .bool false] (fun w => by kernel_rfl) (by rw [List.map_toArray]; rfl) ((part13_calls wx 2 16 32 false).mono fun e w' ⟨he, hb⟩ => ⟨_, he, hb, rfl⟩)⟩
    · exact .inl ⟨wanted_free rfl, fun _ _ => ⟨by show (_ : Nat) ≠ 8; decide, by show (_ : Nat) ≠ 9; decide, by show _ ≠ some (5 : Nat); decide⟩, gp_call rfl rfl #[.int .i64 4, .int .i64 48, .int .i64 16, .bool false] (fun w => by kernel_rfl) (by rw [List.map_toArray]; rfl) ((part13_calls wx 4 48 16 false).mono fun e w' ⟨he, hb⟩ => ⟨_, he, hb, rfl⟩)⟩
    · exact .inl ⟨wanted_free rfl, fun _ _ => ⟨by show (_ : Nat) ≠ 8; decide, by show (_ : Nat) ≠ 9; decide, by show _ ≠ some (5 : Nat); decide⟩, gp_vlit etP cPt_len [.tmp 19, .tmp 20, .tmp 21] [.agg (cA (ptK i1 i0 i16 true)), .agg (cA (ptK i2 i16 i32 false)), .agg (cA (ptK i4 i48 i16 false))] 3 [ptK i1 i0 i16 true, ptK i2 i16 i32 false, ptK i4 i48 i16 false] rfl (by simp only [List.map_cons, List.map_nil, show wa.eval (.tmp 19) = _ from hk.slot 19 (by kernel_rfl), show wa.eval (.tmp 20) = _ from hk.slot 20 (by kernel_rfl), show wa.eval (.tmp 21) = _ from hk.slot 21 (by kernel_rfl)]) rfl (by decide) (by intro v hv; simp at hv; rcases hv with rfl | rfl | rfl <;> rfl) (by decide) rfl rfl ⟨(Below.refl _ wx).alloc (Nat.le_refl _) _, _, rfl, (vown_lit wx _ 43 5 [ptK i1 i0 i16 true, ptK i2 i16 i32 false, ptK i4 i48 i16 false] cPt_len rfl (by decide)).low (Nat.le_trans hNs hk.inv.1.size)⟩⟩
    · exact .inl ⟨wanted_free rfl, fun _ _ => ⟨by show (_ : Nat) ≠ 8; decide, by show (_ : Nat) ≠ 9; decide, by show _ ≠ some (5 : Nat); decide⟩, gp_load (.tmp 3) rfl (hk.old 3 (by kernel_rfl)) (load5 (fun w => by kernel_rfl) (fun w => by kernel_rfl) (keep hk.inv.1 (cells_of h3 0 rfl)) (keep hk.inv.1 (cells_of h3 1 rfl)) (keep hk.inv.1 (cells_of h3 2 rfl)) (keep hk.inv.1 (cells_of h3 3 rfl)) (keep hk.inv.1 (cells_of h3 4 rfl))) ⟨Below.refl _ _, rfl⟩⟩
    · exact .inl ⟨wanted_free rfl, fun _ _ => ⟨by show (_ : Nat) ≠ 8; decide, by show (_ : Nat) ≠ 9; decide, by show _ ≠ some (5 : Nat); decide⟩, gp_vlit etC cCh_len [.tmp 23] [.agg (cA5 chA)] 1 [chA] rfl (by simp only [List.map_cons, List.map_nil, show wa.eval (.tmp 23) = _ from hk.slot 23 (by kernel_rfl)]) rfl (by decide) (by intro v hv; simp at hv; rw [hv]; rfl) (by decide) rfl rfl ⟨(Below.refl _ wx).alloc (Nat.le_refl _) _, _, rfl, (vown_lit wx _ 54 5 [chA] cCh_len rfl (by decide)).low (Nat.le_trans hNs hk.inv.1.size)⟩⟩
    · obtain ⟨gp, ep, hp⟩ := hk.slot 22 (by kernel_rfl)
      obtain ⟨gc, ec, hc⟩ := hk.slot 24 (by kernel_rfl)
      exact .inl ⟨wanted_free rfl, fun _ _ => ⟨by show (_ : Nat) ≠ 8; decide, by show (_ : Nat) ≠ 9; decide, by show _ ≠ some (5 : Nat); decide⟩, gp_run (cbuildC _ _ _ _ _ _ rfl _ _ _ _ _ _ _ _ _ (hk.slot 18 (by kernel_rfl)) ep ec) ⟨Below.refl _ _, ⟨some ⟨n, 0, none⟩, [win11], 1, some ⟨gp, 0, none⟩, [ptK i1 i0 i16 true, ptK i2 i16 i32 false, ptK i4 i48 i16 false], 3, some ⟨gc, 0, none⟩, [chA], 1⟩, rfl, rfl, hw2.stay hk.inv.1, hp, hc, fun x hx => by
        have : x.a = none ∧ x.img = [] ∧ x.c = 0 := by
          simp only [List.mem_cons, List.not_mem_nil, or_false] at hx
          rcases hx with rfl | rfl | rfl <;> exact ⟨rfl, rfl, rfl⟩
        rw [this.1, this.2.1, this.2.2]; exact Cit.Own.nil 5 N _⟩⟩
    · exact .inr (.inl ⟨0, by decide, rfl, rfl, rfl, calloc3 _ _ _ rfl, fun _ _ => trivial⟩)
    · obtain ⟨U, eU, hU⟩ := hk.slot 25 (by kernel_rfl)
      exact .inr (.inr ⟨0, cU U, by decide, rfl, rfl, rfl, ⟨U, rfl, hU⟩, rfl, fun g D hg hD hDs => storeCf _ _ _ _ _ rfl hg eU hD hDs⟩)
  intro a wv hbz hsame hall hbox
  obtain ⟨p2, C2, ep2, hpl2, hC2, hX1, _⟩ := hbox 0 (by decide)
  obtain ⟨U2, rfl, hU2⟩ := hX1
  have he := act_same hsame [18, 19, 20, 21, 22, 23, 24, 25, 5] (by kernel_rfl)
  simp only [List.foldl_cons, List.foldl_nil] at he
  rw [show a.eval (.tmp 5) = _ from ep2] at he
  generalize a.eval (.tmp 18) = y18 at he
  generalize a.eval (.tmp 19) = y19 at he
  generalize a.eval (.tmp 20) = y20 at he
  generalize a.eval (.tmp 21) = y21 at he
  generalize a.eval (.tmp 22) = y22 at he
  generalize a.eval (.tmp 23) = y23 at he
  generalize a.eval (.tmp 24) = y24 at he
  generalize a.eval (.tmp 25) = y25 at he
  simp only [put_lit] at he
  dsimp only [List.set_cons_zero, List.set_cons_succ] at he
  subst he
  have HG2 := Lib.hid (And.intro hC2 (And.intro hU2 (And.intro hbz (And.intro (blk_stay HG.out.1 hbz) (HG.out.2.1.2.stay hbz)))))
  have HU1 := Lib.hid HG.out.2.1.1
  have hB4 : Below w0.heap.size w0 wv := HG.out.2.2.trans (hbz.mono HG.out.2.2.size)
  have HB4 := Lib.hid (HX.out.2.2.trans (hB4.mono HX.out.2.2.size))
  have HE := Lib.hid (And.intro (blk_stay HX.out.1 hB4) (blk_stay HX.out.2.1 hB4))
  clear hsame hall hbox ep2 hbz hC2 hU2 hw2 h3
  obtain ⟨g4, hg4⟩ : ∃ g, g = p1 := ⟨_, rfl⟩
  obtain ⟨g5, hg5⟩ : ∃ g, g = p2 := ⟨_, rfl⟩
  obtain ⟨w4, hw4⟩ : ∃ w4, w4 = wv := ⟨_, rfl⟩
  rw [← hg4] at HG2
  rw [← hg5] at HG2
  rw [← hw4] at HG2 HB4 HE
  have h4 := HG2.out.2.2.2.1
  have h5 := HG2.out.1
  have hN4 : N + 1 < w4.heap.size := (Array.getElem?_eq_some_iff.1 HE.out.2).1
  have hp0 : N < w4.heap.size := by omega
  have hp1 := hN4
  have hge : w0.heap.size ≤ g4 := by rw [hg4]; exact hpl1
  have hge5 : w0.heap.size ≤ g5 := by rw [hg5]; exact Nat.le_trans HG.out.2.2.size hpl2
  have hN0 : N + 1 < w0.heap.size := (Array.getElem?_eq_some_iff.1 HX.out.2.1).1
  have L27 : ∀ wx, Save (· ≠ N) w4 wx → (Instr.loadAt 26 (.pointer (some ⟨g5, 0, none⟩))).run Try.prog wx = .ok (.agg (cU U2)) wx := fun wx hs => by
    have e5 := (hs.block g5 (Array.getElem?_eq_some_iff.1 h5).1 (show g5 ≠ N by omega)).trans h5
    exact load3 (fun w => by kernel_rfl) (fun w => by kernel_rfl) (cells_of e5 0 rfl) (cells_of e5 1 rfl) (cells_of e5 2 rfl)
  rw [← hw4, ← hg4, ← hg5]
  clear hw4 hg4 hg5
  subst hN
  go_upto_region 5 with fail
  refine wp_region_two (sh5 U1 U2 w.heap.size g4 g5) (sh5o U1 U2 w.heap.size g4 g5) [0, 1, 4, 5] 2 3 (fun wx => wx.heap[w.heap.size]? = some (.cells (cU U1) 26 (0, 0)) ∧ Save (· ≠ w.heap.size) w4 wx) (fun wx => wx.heap[w.heap.size]? = some (.cells (cU U1) 26 (0, 0)) ∧ wx.heap[w.heap.size + 1]? = some (.cells (cU U2) 26 (0, 0)) ∧ Save (fun j => j ≠ w.heap.size ∧ j ≠ w.heap.size + 1) w4 wx) (by kernel_rfl) (by kernel_rfl) (by kernel_rfl) (by decide) ⟨rfl, rfl, rfl, rfl, trivial⟩ ?_ ?_
  · refine opsAll_cons ?_ (opsAll_cons ?_ (opsAll_cons ?_ (opsAll_cons ?_ opsAll_nil)))
    all_goals intro a hk
    · exact ⟨wanted_free rfl, .inr (.inr ⟨by decide, by decide, fun wx hst hst2 => gp_load (.tmp 4) rfl (show a.eval (.tmp 4) = (.pointer (some ⟨g4, 0, none⟩)) from hk.old 4 (by kernel_rfl)) (v := (.agg (cU U1))) ((fun (q : After _) => load3 (fun w => by kernel_rfl) (fun w => by kernel_rfl) (keep q.bel (cells_of h4 0 rfl)) (keep q.bel (cells_of h4 1 rfl)) (keep q.bel (cells_of h4 2 rfl))) ⟨wx, (hst (by kernel_rfl)).1⟩) ⟨rfl, rfl⟩⟩)⟩
    · exact ⟨wanted_free rfl, .inr (.inr ⟨by decide, by decide, fun wx hst hst2 => gp_load (.tmp 5) rfl (show a.eval (.tmp 5) = (.pointer (some ⟨g5, 0, none⟩)) from hk.old 5 (by kernel_rfl)) (L27 wx ((hst2 (by kernel_rfl)).elim (fun h => Save.of h.1) (fun h => h.2))) ⟨rfl, rfl⟩⟩)⟩
    · refine ⟨wanted_free rfl, .inl ⟨rfl, fun wx hst => ?_⟩⟩
      exact gp_storeB rowCfg (.tmp 0) (.tmp 26) rfl (hk.old 0 (by kernel_rfl)) (hk.slot 26 (by kernel_rfl)) ((hst.1.block _ hp0).trans HE.out.1) rfl rfl (by with_unfolding_all rfl) (fun w' h hs => ⟨⟨h, (Save.of hst.1).trans hs⟩, trivial⟩)
    · refine ⟨wanted_free rfl, .inr (.inl ⟨rfl, fun wx hst => ?_⟩)⟩
      exact gp_storeB rowCfg (.tmp 1) (.tmp 27) rfl (hk.old 1 (by kernel_rfl)) (hk.slot 27 (by kernel_rfl)) ((hst.2.block _ hp1 (by omega)).trans HE.out.2) rfl rfl (by with_unfolding_all rfl) (fun w' h hs => ⟨⟨(hs.block _ (Array.getElem?_eq_some_iff.1 hst.1).1 (by omega)).trans hst.1, h, (hst.2.less (fun _ _ hj => hj.1)).trans (hs.less (fun _ _ hj => hj.2))⟩, trivial⟩)
  intro a wz hfin hsame hall
  have he := act_same hsame [26, 27] (by kernel_rfl)
  simp only [List.foldl_cons, List.foldl_nil] at he
  generalize a.eval (.tmp 26) = y26 at he
  generalize a.eval (.tmp 27) = y27 at he
  simp only [put_lit] at he
  dsimp only [List.set_cons_zero, List.set_cons_succ] at he
  subst he
  clear hsame hall
  have HB5 := Lib.hid (HB4.out.trans (hfin.2.2.below HB4.out.size (fun k hk => by omega)))
  have hA := HG2.out.2.2.2.2
  have hB := HG2.out.2.1.2
  have hS : ∀ (g : Nat) (C : Array Value) (E : TypeId), w4.heap[g]? = some (.cells C E (0, 0)) → (E : Nat) ≠ 26 → g ≠ w.heap.size ∧ g ≠ w.heap.size + 1 := fun g C E hg hE => by
    constructor
    · rintro rfl; rw [HE.out.1] at hg; injection hg with hg; injection hg with _ e; exact hE e.symm
    · rintro rfl; rw [HE.out.2] at hg; injection hg with hg; injection hg with _ e; exact hE e.symm
  go_wp2_with fail
  refine bodyPost_ret (resBB rowCfg rfl (by rfl) (by rfl) hfin.1 hfin.2.1 rfl rfl) rfl ⟨U1, U2, rfl, HU1.out, HG2.out.2.1.1, ?_, ?_, HB5.out⟩
  · exact (hA.saved hfin.2.2 hS).at
  · exact (hB.saved hfin.2.2 hS).at
end Go.Proofs.Ytpnbaapjjchlbaa
