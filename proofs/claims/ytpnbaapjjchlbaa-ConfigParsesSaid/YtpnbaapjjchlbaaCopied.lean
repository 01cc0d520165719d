/- Copied of chapter 11's law: walked. -/
import Derived.Test.YtpnbaapjjchlbaaSame11
import Derived.Test.YtpnbaapjjchlbaaGe
namespace Go.Proofs.Ytpnbaapjjchlbaa
open Go Go.RowKit Go.Cit

/-- A configuration of one's own. -/
structure OwnedV (B : Nat) (w : World) (V : CfgV) : Prop where
  win : VOwn cWin 2 52 B w V.wa V.ws V.wc
  pts : VOwn cPt 5 43 B w V.pa V.ps V.pc
  chs : VOwn cCh 5 54 B w V.ca V.cs V.cc
  img : ∀ x ∈ V.ps, Cit.Own 5 B w x.a x.img x.c
theorem OwnedV.at {B : Nat} {w : World} {V : CfgV} (h : OwnedV B w V) : V.At w := ⟨h.win.vec cWin_len, h.pts.vec cPt_len, h.chs.vec cCh_len, fun x hx => (h.img x hx).isRow⟩
theorem OwnedV.stay {B : Nat} {w w' : World} {V : CfgV} (h : OwnedV B w V) (hb : Below w.heap.size w w') : OwnedV B w' V := ⟨h.win.stay hb, h.pts.stay hb, h.chs.stay hb, fun x hx => (h.img x hx).stay hb⟩
theorem OwnedV.low {B B' : Nat} {w : World} {V : CfgV} (h : OwnedV B w V) (hb : B' ≤ B) : OwnedV B' w V := ⟨h.win.low hb, h.pts.low hb, h.chs.low hb, fun x hx => (h.img x hx).low hb⟩

/-- The block of a slice of one's own. -/
theorem vown_block {α : Type} {f : α → List Value} {n : Nat} {E : TypeId} {B : Nat} {w : World} {a : Option Addr} {l : List α} {c : Nat} (h : VOwn f n E B w a l c) {g : Nat} (hg : blk a = some g) : ∃ C, w.heap[g]? = some (.cells C E (0, 0)) := by
  rcases h.row.2 with ⟨hv, _⟩ | ⟨g', c', cur, hv, _, hc, _⟩
  · injection hv with h1; subst h1; simp [blk] at hg
  · injection hv with h1; subst h1
    simp [blk] at hg
    subst hg
    exact ⟨cur, hc⟩
theorem vown_ne {α : Type} {f : α → List Value} {n : Nat} {E T : TypeId} {B : Nat} {w : World} {a : Option Addr} {l : List α} {c : Nat} (h : VOwn f n E B w a l c) {k : Nat} {C : Array Value} {fr : Nat × Nat} (hk : w.heap[k]? = some (.cells C T fr)) (hne : E ≠ T) : ∀ g, blk a = some g → g ≠ k := by
  rintro g hg rfl
  obtain ⟨D, hD⟩ := vown_block h hg
  rw [hk] at hD
  injection hD with hD
  injection hD with _ e
  exact hne e.symm
theorem vown_bx {α : Type} {f : α → List Value} {n : Nat} {E : TypeId} {B : Nat} {W w w' : World} {a : Option Addr} {l : List α} {c : Nat} {b : Boxes} (h : VOwn f n E B w a l c) (hG : bxG b W w w') (hne : ∀ j, j < b.nb → E ≠ b.ty j) : VOwn f n E B w' a l c := by
  rcases hG with hb | ⟨g, j, C, hj, _, hc, hs⟩
  · exact h.stay hb
  · exact h.save hs (vown_ne h hc (hne j hj))
theorem build1c {P : Program} {T E : TypeId} {n by_ : Nat} {z : Value} (hE : ElemType P T E n by_ z) {ρ : Operand → Value} {o : Oper} (x : Operand) (v : Value) (C : Array Value) (hC : v.cells = C) (ho : o.op = .buildSlice T 1 #[(0, x)]) (hx : ρ x = v) (hv : C.size = n) (hn : n ≤ 1000) (w : World) :
    (execOp ρ o).run P w = .ok (.value (.slice (some ⟨w.heap.size, 0, none⟩) 1 1)) (w.alloc (.cells C E)) := by
  subst hC; exact build1 hE x v ho hx hv hn w
theorem ownb_bx {E T : TypeId} {B : Nat} {w : World} {a : Option Addr} {l : List UInt8} {c : Nat} (h : Cit.Own E B w a l c) {k : Nat} {C : Array Value} {fr : Nat × Nat} (hk : w.heap[k]? = some (.cells C T fr)) (hne : E ≠ T) : ∀ g, blk a = some g → g ≠ k := vown_ne h.vown hk hne
theorem neU : (5 : Nat) ≠ 26 := by decide
theorem neP : (43 : Nat) ≠ 26 := by decide
theorem neWP : (52 : Nat) ≠ 43 := by decide
theorem neCP : (54 : Nat) ≠ 43 := by decide
theorem neUP : (5 : Nat) ≠ 43 := by decide
theorem neGP : (26 : Nat) ≠ 43 := by decide
theorem exec_append {ρ : Operand → Value} {o : Oper} {T T' : TypeId} {w w' : World} {x y : Operand} {v u r : Value} (ho : o.op = .call { callee := .builtin .append, args := #[x, y], argTypes := #[T, T'] }) (hx : ρ x = v) (hy : ρ y = u)
    (hr : (Builtin.append_ #[T, T'] o.type #[v, u]).run Try.prog w = .ok r w') : (execOp ρ o).run Try.prog w = .ok (.value r) w' := by
  unfold execOp
  simp only [ho, resolve, invoke, builtin, Sem.run_bind, Sem.run_pure, Result.andThen_ok, List.map_toArray, List.map_cons, List.map_nil, hx, hy, hr]

theorem neW : (52 : Nat) ≠ 26 := by decide
theorem neC : (54 : Nat) ≠ 26 := by decide
def cpB : Boxes := ⟨1, fun _ => 9, fun _ => 10, fun _ => 3, fun _ => 26, fun _ => #[.slice none 0 0, .slice none 0 0, .slice none 0 0]⟩
def cpX (V : CfgV) (N : Nat) (C : Array Value) (w : World) : Prop := ∃ a c a' c', C = #[.slice a V.ws.length c, .slice none 0 0, .slice a' V.cs.length c'] ∧ VOwn cWin 2 52 N w a V.ws c ∧ VOwn cCh 5 54 N w a' V.cs c'
def cpT (V : CfgV) (N B1 : Nat) : Nat → Value → World → Prop
  | 6, v, w => ∃ g, v = .slice (some ⟨g, 0, none⟩) 0 0 ∧ VOwn cWin 2 52 N w (some ⟨g, 0, none⟩) [] 0
  | 7, v, _ => v = .pointer (some ⟨B1, 0, none⟩)
  | 8, v, _ => v = .slice V.wa V.ws.length V.wc
  | 9, v, w => ∃ a c, v = .slice a V.ws.length c ∧ VOwn cWin 2 52 N w a V.ws c
  | 10, v, w => ∃ g, v = .slice (some ⟨g, 0, none⟩) 0 0 ∧ VOwn cCh 5 54 N w (some ⟨g, 0, none⟩) [] 0
  | 11, v, _ => v = .pointer (some ⟨B1, 2, none⟩)
  | 12, v, _ => v = .slice V.ca V.cs.length V.cc
  | 13, v, w => ∃ a c, v = .slice a V.cs.length c ∧ VOwn cCh 5 54 N w a V.cs c
  | 14, v, w => ∃ C, v = .agg C ∧ cpX V N C w
  | _, _, _ => True
theorem cpX_bx {V : CfgV} {N : Nat} {C : Array Value} {W w w' : World} (hG : bxG cpB W w w') (h : cpX V N C w) : cpX V N C w' := by
  obtain ⟨a, c, a', c', e, h1, h2⟩ := h
  exact ⟨a, c, a', c', e, vown_bx h1 hG (fun _ _ => neW), vown_bx h2 hG (fun _ _ => neC)⟩
theorem cpT_bx {V : CfgV} {N B1 : Nat} {d : Nat} {v : Value} {W w w' : World} (hG : bxG cpB W w w') (h : cpT V N B1 d v w) : cpT V N B1 d v w' := by
  unfold cpT at *
  split at h
  · obtain ⟨g, e, h⟩ := h; exact ⟨g, e, vown_bx h hG (fun _ _ => neW)⟩
  · exact h
  · exact h
  · obtain ⟨a, c, e, h⟩ := h; exact ⟨a, c, e, vown_bx h hG (fun _ _ => neW)⟩
  · obtain ⟨g, e, h⟩ := h; exact ⟨g, e, vown_bx h hG (fun _ _ => neC)⟩
  · exact h
  · exact h
  · obtain ⟨a, c, e, h⟩ := h; exact ⟨a, c, e, vown_bx h hG (fun _ _ => neC)⟩
  · obtain ⟨C, e, h⟩ := h; exact ⟨C, e, cpX_bx hG h⟩
  · trivial

theorem cbuild0 (ρ : Operand → Value) (o : Oper) (w : World) (h : o.op = .buildSlice 22 0 #[]) : (execOp ρ o).run Try.prog w = .ok (.value (.slice (some ⟨w.heap.size, 0, none⟩) 0 0)) (w.alloc (.cells #[] 52)) := by
  unfold execOp; rw [h]; kernel_rfl
theorem cbuild0c (ρ : Operand → Value) (o : Oper) (w : World) (h : o.op = .buildSlice 24 0 #[]) : (execOp ρ o).run Try.prog w = .ok (.value (.slice (some ⟨w.heap.size, 0, none⟩) 0 0)) (w.alloc (.cells #[] 54)) := by
  unfold execOp; rw [h]; kernel_rfl
theorem cbuild14 (ρ : Operand → Value) (o : Oper) (w : World) (x y : Operand) (h : o.op = .build 26 #[(0, x), (2, y)]) (a a' : Option Addr) (n n' c c' : Nat) (hx : ρ x = .slice a n c) (hy : ρ y = .slice a' n' c') :
    (execOp ρ o).run Try.prog w = .ok (.value (.agg #[.slice a n c, .slice none 0 0, .slice a' n' c'])) w := by
  unfold execOp; rw [h]
  simp only [List.map_toArray, List.map_cons, List.map_nil, hx, hy]
  kernel_rfl
theorem calloc3 (ρ : Operand → Value) (o : Oper) (w : World) (h : o.op = .alloc 26) : (execOp ρ o).run Try.prog w = .ok (.value (.pointer (some ⟨w.heap.size, 0, none⟩))) (w.alloc (.cells #[.slice none 0 0, .slice none 0 0, .slice none 0 0] 26)) := by
  unfold execOp; rw [h]; kernel_rfl
theorem cloadW (w : World) (p : Addr) (v : Value) (h : w.cell? p = some v) : (Instr.loadAt 22 (.pointer (some p))).run Try.prog w = .ok v w := by
  have hT := Try.underlying22
  go_simp
theorem cloadC (w : World) (p : Addr) (v : Value) (h : w.cell? p = some v) : (Instr.loadAt 24 (.pointer (some p))).run Try.prog w = .ok v w := by
  have hT := Try.underlying24
  go_simp

set_option maxRecDepth 100000 in
set_option maxHeartbeats 4000000 in
theorem copied_calls (w : World) (V : CfgV) (h : V.At w) (hs : SmallV V) : Calls Try.prog 19 #[.agg #[.slice V.wa V.ws.length V.wc, .slice V.pa V.ps.length V.pc, .slice V.ca V.cs.length V.cc]] w fun e w' =>
    ∃ U : CfgV, e = .returned (.agg #[.slice U.wa U.ws.length U.wc, .slice U.pa U.ps.length U.pc, .slice U.ca U.cs.length U.cc]) ∧ U.cfg = V.cfg ∧ OwnedV w.heap.size w' U ∧ Below w.heap.size w w' := by
  obtain ⟨w1, hw1⟩ : ∃ w1, w1 = (w.alloc (.cells #[.slice V.wa V.ws.length V.wc, .slice V.pa V.ps.length V.pc, .slice V.ca V.cs.length V.cc] 26)).alloc (.cells #[.slice none 0 0, .slice none 0 0, .slice none 0 0] 26) := ⟨_, rfl⟩
  have B1 : Below w.heap.size w w1 := by rw [hw1]; exact ((Below.refl _ w).alloc (Nat.le_refl _) _).alloc (by simp) _
  have hsz1 : w1.heap.size = w.heap.size + 2 := by rw [hw1]; simp
  have hI : InBox w1 w.heap.size V := by rw [hw1]; exact (inBox_new w V _).keep ((Below.refl _ _).alloc (Nat.le_refl _) _)
  have hR1 : w1.heap[w.heap.size + 1]? = some (.cells #[.slice none 0 0, .slice none 0 0, .slice none 0 0] 26 (0, 0)) := by
    rw [hw1, show w.heap.size + 1 = (w.alloc (.cells #[.slice V.wa V.ws.length V.wc, .slice V.pa V.ps.length V.pc, .slice V.ca V.cs.length V.cc] 26)).heap.size by simp, heap_alloc_new]
  have hV := h.stay B1
  have HB1 := Lib.hid (And.intro B1 (And.intro hI (And.intro hR1 hV)))
  have hw9 := hs.win
  have hc9 := hs.chs
  clear h B1 hI hR1 hV
  go_enter Try.func19, Try.ntmps19
  go_wp2_with fail
  rw [← hw1]
  clear hw1
  refine wp_region_boxes cpB (fun _ => cpX V w1.heap.size) (cpT V w1.heap.size w.heap.size) (by kernel_rfl) (by kernel_rfl) (by kernel_rfl) (fun _ _ _ _ hG h => cpT_bx hG h) (fun _ _ _ _ hG h => cpX_bx hG h) ?_ ?_ (fun j hj => by
      have : j = 0 := by have : j < 1 := hj; omega
      subst this; exact ⟨by decide, by decide⟩)
  · refine opsAll_cons ?_ (opsAll_cons ?_ (opsAll_cons ?_ (opsAll_cons ?_ (opsAll_cons ?_ (opsAll_cons ?_ (opsAll_cons ?_ (opsAll_cons ?_ (opsAll_cons ?_ (opsAll_cons ?_ (opsAll_cons ?_ opsAll_nil))))))))))
    all_goals intro δ wa wx hk
    · exact .inl ⟨wanted_free rfl, fun _ _ => ⟨by show (_ : Nat) ≠ 9; decide, by show (_ : Nat) ≠ 10; decide, by show _ ≠ some (3 : Nat); decide⟩, gp_run (cbuild0 _ _ _ rfl) ⟨(Below.refl _ wx).alloc (Nat.le_refl _) _, _, rfl, (vown_lit wx #[] 52 2 ([] : List Win) cWin_len rfl (by simp)).low hk.inv.1.size⟩⟩
    · exact .inl ⟨wanted_free rfl, fun _ _ => ⟨by show (_ : Nat) ≠ 9; decide, by show (_ : Nat) ≠ 10; decide, by show _ ≠ some (3 : Nat); decide⟩, gp_field (.tmp 1) rfl (hk.old 1 (by kernel_rfl)) (fun w => by kernel_rfl) ⟨Below.refl _ _, rfl⟩⟩
    · exact .inl ⟨wanted_free rfl, fun _ _ => ⟨by show (_ : Nat) ≠ 9; decide, by show (_ : Nat) ≠ 10; decide, by show _ ≠ some (3 : Nat); decide⟩, gp_load (.tmp 7) rfl (hk.slot 7 (by kernel_rfl)) (cloadW _ _ _ (keep hk.inv.1 HB1.out.2.1.c0)) ⟨Below.refl _ _, rfl⟩⟩
    · obtain ⟨g, e6, h6⟩ := hk.slot 6 (by kernel_rfl)
      obtain ⟨a', c', w', hr, ho, hb⟩ := run_vapp0 etW cWin_len cWin_one 22 h6 ((HB1.out.2.2.2.stay hk.inv.1).win) (by omega) hk.inv.1.size
      exact .inl ⟨wanted_free rfl, fun _ _ => ⟨by show (_ : Nat) ≠ 9; decide, by show (_ : Nat) ≠ 10; decide, by show _ ≠ some (3 : Nat); decide⟩, gp_run (exec_append rfl e6 (hk.slot 8 (by kernel_rfl)) hr) ⟨hb, a', c', rfl, ho⟩⟩
    · exact .inl ⟨wanted_free rfl, fun _ _ => ⟨by show (_ : Nat) ≠ 9; decide, by show (_ : Nat) ≠ 10; decide, by show _ ≠ some (3 : Nat); decide⟩, gp_run (cbuild0c _ _ _ rfl) ⟨(Below.refl _ wx).alloc (Nat.le_refl _) _, _, rfl, (vown_lit wx #[] 54 5 ([] : List Ch) cCh_len rfl (by simp)).low hk.inv.1.size⟩⟩
    · exact .inl ⟨wanted_free rfl, fun _ _ => ⟨by show (_ : Nat) ≠ 9; decide, by show (_ : Nat) ≠ 10; decide, by show _ ≠ some (3 : Nat); decide⟩, gp_field (.tmp 1) rfl (hk.old 1 (by kernel_rfl)) (fun w => by kernel_rfl) ⟨Below.refl _ _, rfl⟩⟩
    · exact .inl ⟨wanted_free rfl, fun _ _ => ⟨by show (_ : Nat) ≠ 9; decide, by show (_ : Nat) ≠ 10; decide, by show _ ≠ some (3 : Nat); decide⟩, gp_load (.tmp 11) rfl (hk.slot 11 (by kernel_rfl)) (cloadC _ _ _ (keep hk.inv.1 HB1.out.2.1.c2)) ⟨Below.refl _ _, rfl⟩⟩
    · obtain ⟨g, e6, h6⟩ := hk.slot 10 (by kernel_rfl)
      obtain ⟨a', c', w', hr, ho, hb⟩ := run_vapp0 etC cCh_len cCh_one 24 h6 ((HB1.out.2.2.2.stay hk.inv.1).chs) (by omega) hk.inv.1.size
      exact .inl ⟨wanted_free rfl, fun _ _ => ⟨by show (_ : Nat) ≠ 9; decide, by show (_ : Nat) ≠ 10; decide, by show _ ≠ some (3 : Nat); decide⟩, gp_run (exec_append rfl e6 (hk.slot 12 (by kernel_rfl)) hr) ⟨hb, a', c', rfl, ho⟩⟩
    · obtain ⟨a, c, e9, h9⟩ := hk.slot 9 (by kernel_rfl)
      obtain ⟨a', c', e13, h13⟩ := hk.slot 13 (by kernel_rfl)
      exact .inl ⟨wanted_free rfl, fun _ _ => ⟨by show (_ : Nat) ≠ 9; decide, by show (_ : Nat) ≠ 10; decide, by show _ ≠ some (3 : Nat); decide⟩, gp_run (cbuild14 _ _ _ _ _ rfl _ _ _ _ _ _ e9 e13) ⟨Below.refl _ _, _, rfl, a, c, a', c', rfl, h9, h13⟩⟩
    · exact .inr (.inl ⟨0, by decide, rfl, rfl, rfl, calloc3 _ _ _ rfl, fun _ _ => trivial⟩)
    · obtain ⟨C, e14, hX⟩ := hk.slot 14 (by kernel_rfl)
      refine .inr (.inr ⟨0, C, by decide, rfl, rfl, rfl, hX, ?_, fun g D hg hD hDs => ?_⟩)
      · obtain ⟨_, _, _, _, rfl, _⟩ := hX; rfl
      · have h3 : C.size = 3 := by obtain ⟨_, _, _, _, rfl, _⟩ := hX; rfl
        have h1c : C.all (·.oneCell') = true := by obtain ⟨_, _, _, _, rfl, _⟩ := hX; simp [Value.oneCell']
        have hr := run_storeVar_row (P := Try.prog) wx g 26 26 D C hD (by rw [h3]; kernel_rfl) hDs h1c
        refine ⟨wx.setRow g C, ?_, setRow_same hD, setRow_save _ _ _⟩
        unfold execOp
        simp only [show wa.eval (.tmp 3) = _ from hg, e14, Sem.run_bind, Instr.storeAt, Instr.sureAddr, Sem.run_pure, Result.andThen, hr]
  · intro a wz hbz hsame hall hbox
    obtain ⟨g, C, eg, hg, hC, hX, _⟩ := hbox 0 (by decide)
    obtain ⟨g6, e6, _⟩ := hall 6 (by kernel_rfl)
    obtain ⟨a9, c9, e9, h9⟩ := hall 9 (by kernel_rfl)
    obtain ⟨g10, e10, _⟩ := hall 10 (by kernel_rfl)
    obtain ⟨a13, c13, e13, h13⟩ := hall 13 (by kernel_rfl)
    obtain ⟨C14, e14, _⟩ := hall 14 (by kernel_rfl)
    obtain ⟨aw, cw, ac, cc, rfl, hW, hCh⟩ := hX
    have he := act_same hsame [6, 7, 8, 9, 10, 11, 12, 13, 14, 3] (by kernel_rfl)
    simp only [List.foldl_cons, List.foldl_nil] at he
    rw [e6, show a.eval (.tmp 7) = _ from hall 7 (by kernel_rfl), show a.eval (.tmp 8) = _ from hall 8 (by kernel_rfl), e9, e10, show a.eval (.tmp 11) = _ from hall 11 (by kernel_rfl), show a.eval (.tmp 12) = _ from hall 12 (by kernel_rfl), e13, e14, show a.eval (.tmp 3) = _ from eg] at he
    simp only [Act.put, List.setIfInBounds_toArray, List.set_cons_zero, List.set_cons_succ] at he
    subst he
    have HZ := Lib.hid (And.intro hbz (And.intro hC (And.intro hW hCh)))
    have hlen := HB1.out.2.2.2.pts.len_le
    have hp9 := hs.pts
    have HIMG := Lib.hid hs.img
    clear hsame hall hbox e6 e9 e10 e13 e14 eg h9 h13 hbz hC hW hCh
    go_wp2_with fail
    go_loopw [4] (fun s wr => ∃ (k : Nat) (L : List PtV) (pa : Option Addr) (pc : Nat), s = .int .i64 k ∧ k ≤ V.ps.length ∧ L.length = k ∧ Hid (L.map PtV.pt = (V.ps.take k).map PtV.pt) ∧ VOwn cPt 5 43 w1.heap.size wr pa L pc ∧ (∀ x ∈ L, Cit.Own 5 w1.heap.size wr x.a x.img x.c) ∧
      wr.heap[g]? = some (.cells #[.slice aw V.ws.length cw, .slice pa L.length pc, .slice ac V.cs.length cc] 26 (0, 0)) ∧ VOwn cWin 2 52 w1.heap.size wr aw V.ws cw ∧ VOwn cCh 5 54 w1.heap.size wr ac V.cs cc ∧ Below w1.heap.size w1 wr) (fun s _ => V.ps.length - (intOf s).toNat)
    case atStart => exact ⟨0, [], none, 0, rfl, Nat.zero_le _, rfl, rfl, VOwn.nil_ _ _ _ _ _, fun x hx => by simp at hx, HZ.out.2.1, HZ.out.2.2.1, HZ.out.2.2.2, HZ.out.1⟩
    case round =>
      obtain ⟨k, L, pa, pc, rfl, hk, hLk, HL, hP, hM, hG, hW, hCh, B⟩ := hrel
      have hIk := HB1.out.2.1.keep B
      have hVk := HB1.out.2.2.2.stay B
      have hglt : g < wr.heap.size := (Array.getElem?_eq_some_iff.1 hG).1
      obtain ⟨c0, c1, c2⟩ := hIk
      by_cases hlt : k < V.ps.length
      · have i0 := hVk.pts.index etP k hlt
        obtain ⟨u0, u1, u2, u3, u4⟩ := pts_cells hVk.pts (Below.refl _ _) k hlt
        have hr := hVk.img V.ps[k] (List.getElem_mem hlt)
        have hi9 := HIMG.out V.ps[k] (List.getElem_mem hlt)
        obtain ⟨x, hx⟩ : ∃ x : PtV, Hid (x = V.ps[k]) := ⟨V.ps[k], rfl⟩
        rw [← hx.out] at u0 u1 u2 u3 u4 hr hi9
        have Ba : Below wr.heap.size wr (wr.alloc (.cells #[.int .i64 x.id.1, .int .i64 x.reg.base.1, .int .i64 x.reg.size.1, .bool x.keep, .slice x.a x.img.length x.c] 43)) := (Below.refl _ wr).alloc (Nat.le_refl _) _
        have Bb : Below wr.heap.size wr ((wr.alloc (.cells #[.int .i64 x.id.1, .int .i64 x.reg.base.1, .int .i64 x.reg.size.1, .bool x.keep, .slice x.a x.img.length x.c] 43)).alloc (.cells #[] 5)) := Ba.alloc (by simp) _
        have ho0 := (vown_lit (wr.alloc (.cells #[.int .i64 x.id.1, .int .i64 x.reg.base.1, .int .i64 x.reg.size.1, .bool x.keep, .slice x.a x.img.length x.c] 43)) #[] 5 1 ([] : List UInt8) cb_len rfl (by simp))
        rw [World.size_alloc] at ho0
        have hrv := hr.stay Bb
        have hvb : Vec cb 1 _ x.a x.img x.c := Vec.of1 (v := vb) hrv.le hrv.top hrv.nil hrv.spot hrv.cell
        obtain ⟨a2, d2, w2, hrun, ho2, hb2⟩ := run_vapp0 (P := Try.prog) (ElemType.ofBytes btP) cb_len cb_one 41 ho0 hvb (by omega) (by rw [World.size_alloc, World.size_alloc]; omega)
        have HRUN := Lib.hid hrun
        have hsb : ((wr.alloc (.cells #[.int .i64 x.id.1, .int .i64 x.reg.base.1, .int .i64 x.reg.size.1, .bool x.keep, .slice x.a x.img.length x.c] 43)).alloc (.cells #[] 5)).heap.size = wr.heap.size + 2 := by simp
        have B2 : Below wr.heap.size wr w2 := Bb.trans (hb2.mono (by omega))
        have e2 : w2.heap[wr.heap.size]? = some (.cells #[.int .i64 x.id.1, .int .i64 x.reg.base.1, .int .i64 x.reg.size.1, .bool x.keep, .slice x.a x.img.length x.c] 43 (0, 0)) := (hb2.block _ (by omega)).trans ((Below.heap_alloc _ _ _ (by simp)).trans (heap_alloc_new _ _))
        have q0 := cells_of e2 0 rfl
        have q1 := cells_of e2 1 rfl
        have q2 := cells_of e2 2 rfl
        have q3 := cells_of e2 3 rfl
        have q4 := cells_of e2 4 rfl
        have f2 := frozen_no e2
        have B3 : Below wr.heap.size wr (w2.setCell ⟨wr.heap.size, 4, none⟩ (.slice a2 x.img.length d2)) := B2.setCell (p := ⟨wr.heap.size, 4, none⟩) (Nat.le_refl _) _
        have ho2 := ho2.own
        have hI2 : Cit.Own 5 w1.heap.size (w2.setCell ⟨wr.heap.size, 4, none⟩ (.slice a2 x.img.length d2)) a2 x.img d2 := (ho2.save (S := (· ≠ wr.heap.size)) Save.set (ownb_bx ho2 e2 neUP)).low (by have := B.size; simp; omega)
        have hG3 := (B3.block g hglt).trans hG
        have gq := (cells_of ((B2.block g hglt).trans hG) 1 rfl : w2.cell? ⟨g, 1, none⟩ = some (.slice pa L.length pc))
        have hgne : g ≠ wr.heap.size := by omega
        obtain ⟨y, hy⟩ : ∃ y : PtV, y = ⟨x.id, x.reg, x.keep, a2, x.img, d2⟩ := ⟨_, rfl⟩
        obtain ⟨W3, hW3⟩ : ∃ W3, W3 = w2.setCell ⟨wr.heap.size, 4, none⟩ (.slice a2 x.img.length d2) := ⟨_, rfl⟩
        have hsz3 : W3.heap.size = w2.heap.size := by rw [hW3]; simp [World.setCell]
        have hm36 := vec_lit W3 #[.int .i64 x.id.1, .int .i64 x.reg.base.1, .int .i64 x.reg.size.1, .bool x.keep, .slice a2 x.img.length d2] 43 5 [y] cPt_len (by rw [hy]; rfl) (by simp)
        rw [hsz3] at hm36
        rw [← hW3] at B3 hI2 hG3
        have B36 : Below wr.heap.size wr (W3.alloc (.cells #[.int .i64 x.id.1, .int .i64 x.reg.base.1, .int .i64 x.reg.size.1, .bool x.keep, .slice a2 x.img.length d2] 43)) := B3.alloc B3.size _
        have hI36 := hI2.stay ((Below.refl _ W3).alloc (Nat.le_refl _) (.cells #[.int .i64 x.id.1, .int .i64 x.reg.base.1, .int .i64 x.reg.size.1, .bool x.keep, .slice a2 x.img.length d2] 43))
        rw [hW3] at hm36 B36 hI36
        have HO36 := Lib.hid (hP.stay B36)
        have HV36 := Lib.hid hm36
        have HG36 := Lib.hid ((B36.block g hglt).trans hG)
        have HGN := Lib.hid (vown_ne hP hG neP)
        have HX36 := Lib.hid (And.intro (hW.stay B36) (And.intro (hCh.stay B36) (And.intro hI36 (B.trans (B36.mono B.size)))))
        have HM36 := Lib.hid (fun z (hz : z ∈ L) => (hM z hz).stay B36)
        have hL9 : L.length ≤ 100 := by omega
        have HLK := Lib.hid hLk
        have HLN : Hid ((L ++ [y]).map PtV.pt = (V.ps.take (k + 1)).map PtV.pt) := by
          rw [Hid, List.map_append, HL.out, List.take_succ_eq_append_getElem hlt, List.map_append, hy, ← hx.out]; rfl
        have HY := Lib.hid hy
        clear hr hrv hvb ho0 hrun ho2 hb2 Ba Bb hP hM hG hW hCh B hVk e2 hsb B2 B3 hI2 hG3 hLk hy hW3 hsz3 hm36 B36 hI36
        go_wp2_with (first
          | ((with_reducible refine wpList_value (o := ⟨some 30, .call _, _, _, _, _⟩) (by with_unfolding_all rfl) (exec_append (by with_unfolding_all rfl) (by with_unfolding_all rfl) (by with_unfolding_all rfl) HRUN.out) ?_))
          | ((with_reducible refine wpList_value (o := ⟨some 35, .buildSlice _ _ _, _, _, _, _⟩) (by with_unfolding_all rfl) (build1c etP (.tmp 34) (.agg #[.int .i64 x.id.1, .int .i64 x.reg.base.1, .int .i64 x.reg.size.1, .bool x.keep, .slice a2 x.img.length d2]) #[.int .i64 x.id.1, .int .i64 x.reg.base.1, .int .i64 x.reg.size.1, .bool x.keep, .slice a2 x.img.length d2] rfl (by with_unfolding_all rfl) (by with_unfolding_all rfl) (by with_unfolding_all rfl) (by decide) _) ?_))
          | ((with_reducible refine wpList_vapp (o := ⟨some 36, .call _, _, _, _, _⟩) etP cPt_len cPt_one (.tmp 33) (.tmp 35) (by with_unfolding_all rfl) (by with_unfolding_all rfl) HO36.out HV36.out (by simp) (by simp; omega) HX36.out.2.2.2.size (by with_unfolding_all rfl) (by first | with_unfolding_all rfl | simp [Act.eval, Act.put]) ?_); intro a4 c4 w4 hO4 hg4 hn4; have HO4 := Lib.hid (And.intro hO4 hg4); have hlt36 := (Array.getElem?_eq_some_iff.1 HG36.out).1; have e4 := (hg4.block g hlt36 (fun e => HGN.out g e.symm rfl)).trans HG36.out; have r1 := cells_of e4 1 rfl; have fr := frozen_no e4; have HE4 := Lib.hid e4; clear hO4 hg4 hn4 e4 hlt36))
        have hG4 := HE4.out
        have hgg : (w4.setCell ⟨g, 1, none⟩ (.slice a4 (L.length + 1) c4)).heap[g]? = some (.cells #[.slice aw V.ws.length cw, .slice a4 (L ++ [y]).length c4, .slice ac V.cs.length cc] 26 (0, 0)) := by simp [World.setCell, Array.getElem?_modify, hG4]
        have S4 : Save (fun k => some k ≠ blk pa) _ w4 := Save.grown HO4.out.2
        have S5 : Save (· ≠ g) w4 (w4.setCell ⟨g, 1, none⟩ (.slice a4 (L.length + 1) c4)) := Save.set
        have hneP : ∀ {α : Type} {f : α → List Value} {n : Nat} {E : TypeId} {a : Option Addr} {l : List α} {c : Nat} {W : World}, VOwn f n E w1.heap.size W a l c → VOwn cPt 5 43 w1.heap.size W pa L pc → E ≠ 43 → ∀ k, blk a = some k → some k ≠ blk pa := by
          intro α f n E a l c W h hp hE k hk e
          obtain ⟨D, hD⟩ := vown_block hp e.symm
          exact vown_ne h hD hE k hk rfl
        have oW := HX36.out.1.save S4 (hneP HX36.out.1 HO36.out neWP)
        have oC := HX36.out.2.1.save S4 (hneP HX36.out.2.1 HO36.out neCP)
        have oI := HX36.out.2.2.1.vown.save S4 (hneP HX36.out.2.2.1.vown HO36.out neUP)
        have oM : ∀ z ∈ L, VOwn cb 1 5 w1.heap.size w4 z.a z.img z.c := fun z hz => (HM36.out z hz).vown.save S4 (hneP (HM36.out z hz).vown HO36.out neUP)
        have oP := HO4.out.1.save S5 (vown_ne HO4.out.1 hG4 neP)
        have oW := oW.save S5 (vown_ne oW hG4 neW)
        have oC := oC.save S5 (vown_ne oC hG4 neC)
        have oI := oI.save S5 (vown_ne oI hG4 neU)
        have oM : ∀ z ∈ L, VOwn cb 1 5 w1.heap.size _ z.a z.img z.c := fun z hz => (oM z hz).save S5 (vown_ne (oM z hz) hG4 neU)
        have hB5 := (HX36.out.2.2.2.trans (HO36.out.grown HO4.out.2 HX36.out.2.2.2.size)).setCell (p := ⟨g, 1, none⟩) hg (.slice a4 (L.length + 1) c4)
        have hll : (L ++ [y]).length = L.length + 1 := by simp
        go_roundw
        case rel => exact ⟨k + 1, L ++ [y], a4, c4, by go_num, by omega, by have := HLK.out; rw [hll]; omega, HLN.out, oP, fun z hz => (List.mem_append.1 hz).elim (fun h => (oM z h).own) (fun h => by rw [List.mem_singleton] at h; subst h; rw [HY.out]; exact oI.own), hgg, oW, oC, hB5⟩
        case measure => simp [intOf]; omega
      · have hk2 : k = V.ps.length := by omega
        have HLE : Hid (L.map PtV.pt = V.ps.map PtV.pt) := by rw [Hid, HL.out, hk2, List.take_length]
        have HLK := Lib.hid hLk
        have s0 := cells_of hG 0 rfl
        have s1 := cells_of hG 1 rfl
        have s2 := cells_of hG 2 rfl
        have HN : Hid (wr.heap[w.heap.size + 1]? = some (.cells #[.slice none 0 0, .slice none 0 0, .slice none 0 0] 26 (0, 0))) := (B.block _ (by omega)).trans HB1.out.2.2.1
        have HK := Lib.hid (And.intro hP (And.intro hM (And.intro hW (And.intro hCh (HB1.out.1.trans (B.mono HB1.out.1.size))))))
        have HNE := Lib.hid (And.intro (vown_ne hP HN.out neP) (And.intro (fun z hz => ownb_bx (hM z hz) HN.out neU) (And.intro (vown_ne hW HN.out neW) (vown_ne hCh HN.out neC))))
        have hw1s := HB1.out.1.size
        clear hk2 hLk hP hM hG hW hCh B
        go_wp2_with ((with_reducible refine wpList_storeB (o := ⟨none, .store _ (.tmp 2) (.tmp 38), _, _, _, _⟩) rowCfg (.tmp 2) (.tmp 38) (by with_unfolding_all rfl) (by with_unfolding_all rfl) (by with_unfolding_all rfl) (by with_unfolding_all rfl) (by with_unfolding_all rfl) HN.out (by with_unfolding_all rfl) (by with_unfolding_all rfl) (by simp [Value.oneCell']) ?_); intro w7 hb7 hS7; have HB7 := Lib.hid hb7; have HS7 := Lib.hid hS7; clear hb7 hS7)
        refine bodyPost_ret (resB1 rowCfg rfl (by rfl) HB7.out rfl) rfl ⟨⟨aw, V.ws, cw, pa, L, pc, ac, V.cs, cc⟩, rfl, ?_, OwnedV.low (B := w1.heap.size) ⟨HK.out.2.2.1.save HS7.out HNE.out.2.2.1, HK.out.1.save HS7.out HNE.out.1, HK.out.2.2.2.1.save HS7.out HNE.out.2.2.2, fun z hz => (HK.out.2.1 z hz).save HS7.out (HNE.out.2.1 z hz)⟩ hw1s, ?_⟩
        · rw [cfg_eq_iff]; exact ⟨rfl, HLE.out, rfl⟩
        · exact HK.out.2.2.2.2.trans (HS7.out.below HK.out.2.2.2.2.size (fun k hk => by omega))
end Go.Proofs.Ytpnbaapjjchlbaa
