/- (sha.State).eat: the region that draws its order; the turn of the row. -/
import Derived.Test.YtiemafgnpmoblaaShaSched
import Derived.Test.YtiemafgnpmoblaaBoxTwo
import Derived.Test.YtiemafgnpmoblaaRepeat
namespace Go.Proofs.Ytiemafgnpmoblaa
open Go Go.RowKit Go.Cit

theorem row_w64 : RowType Try.prog 69 64 := ⟨⟨_, Try.underlying69, rfl⟩, by kernel_rfl⟩
theorem row_state : RowType Try.prog 24 8 := ⟨⟨_, Try.underlying24, rfl⟩, by kernel_rfl⟩
theorem alloc_w64 (ρ : Operand → Value) (d : Option Tmp) (ty : TypeId) (ps : String) {af} (w : World) :
    (execOp ρ { dst := d, op := Op.alloc 69, type := ty, pos := ps, after := af, guard := none }).run Try.prog w = .ok (.value (.pointer (some ⟨w.heap.size, 0, none⟩))) (w.alloc (.cells ((List.replicate 64 (0 : UInt32)).map vw).toArray 69)) := by
  kernel_rfl
theorem alloc_state (ρ : Operand → Value) (d : Option Tmp) (ty : TypeId) (ps : String) {af} (w : World) :
    (execOp ρ { dst := d, op := Op.alloc 24, type := ty, pos := ps, after := af, guard := none }).run Try.prog w = .ok (.value (.pointer (some ⟨w.heap.size, 0, none⟩))) (w.alloc (.cells ((List.replicate 8 (0 : UInt32)).map vw).toArray 24)) := by
  kernel_rfl

/-- What is held between the operations of eat's region that makes w and x. -/
def eatC (n0 : Nat) (W : World) (F S Z Y : Array Value) (δ : Nat → Bool) (a : Act) (wx : World) : Prop :=
  Below n0 W wx ∧ (δ 3 = true → ∃ g, a.tmps.getD 7 undef = .pointer (some ⟨g, 0, none⟩) ∧ n0 ≤ g ∧ wx.heap[g]? = some (.cells (if δ 5 then F else Z) 69 (0, 0))) ∧
  (δ 4 = true → ∃ g, a.tmps.getD 8 undef = .pointer (some ⟨g, 0, none⟩) ∧ n0 ≤ g ∧ wx.heap[g]? = some (.cells (if δ 6 then S else Y) 24 (0, 0)))
def eatT (a : Option Addr) (c : Nat) (F S : Array Value) : Nat → Value → World → Prop
  | 15, v, _ => v = .slice a 64 c
  | 16, v, _ => v = .agg F
  | 17, v, _ => v = .agg S
  | _, _, _ => True
theorem eatC_pure {n0 : Nat} {W : World} {F S Z Y : Array Value} {δ : Nat → Bool} {a : Act} {wx w' : World} (h : eatC n0 W F S Z Y δ a wx) (hn : n0 = W.heap.size) (hb : Below wx.heap.size wx w') {i d : Nat} {v : Value} (hi : i < 3) (hd : 9 ≤ d) :
    eatC n0 W F S Z Y (upd δ i) (a.put (some d) v) w' := by
  obtain ⟨h1, h2, h3⟩ := h
  have hs := h1.size
  refine ⟨h1.trans (hb.mono (by omega)), fun h => ?_, fun h => ?_⟩
  · rw [upd_other δ (by omega)] at h
    obtain ⟨g, e, hg, hc⟩ := h2 h
    refine ⟨g, by rw [put_getD_ne _ _ _ _ (fun h => by have : d = 7 := Option.some.inj h; omega)]; exact e, hg, ?_⟩
    rw [upd_other δ (by omega), hb.block _ (Array.getElem?_eq_some_iff.1 hc).1]; exact hc
  · rw [upd_other δ (by omega)] at h
    obtain ⟨g, e, hg, hc⟩ := h3 h
    refine ⟨g, by rw [put_getD_ne _ _ _ _ (fun h => by have : d = 8 := Option.some.inj h; omega)]; exact e, hg, ?_⟩
    rw [upd_other δ (by omega), hb.block _ (Array.getElem?_eq_some_iff.1 hc).1]; exact hc
theorem eatC_a7 {n0 : Nat} {W : World} {F S Z Y : Array Value} {δ : Nat → Bool} {a : Act} {wx : World} (h : eatC n0 W F S Z Y δ a wx) (hn : n0 = W.heap.size) (h5 : δ 5 = false) (h7 : 7 < a.tmps.size) :
    eatC n0 W F S Z Y (upd δ 3) (a.put (some 7) (.pointer (some ⟨wx.heap.size, 0, none⟩))) (wx.alloc (.cells Z 69)) := by
  obtain ⟨h1, h2, h3⟩ := h
  have hs := h1.size
  refine ⟨h1.alloc (by omega) _, fun _ => ⟨wx.heap.size, put_getD_same _ _ _ h7, by omega, ?_⟩, fun h => ?_⟩
  · rw [upd_other δ (by omega), h5]; exact heap_alloc_new wx _
  · rw [upd_other δ (by omega)] at h
    obtain ⟨g, e, hg, hc⟩ := h3 h
    refine ⟨g, by rw [put_getD_ne _ _ _ _ (by simp)]; exact e, hg, ?_⟩
    rw [upd_other δ (by omega), ((Below.refl _ wx).alloc (Nat.le_refl _) _).block _ (Array.getElem?_eq_some_iff.1 hc).1]; exact hc
theorem eatC_a8 {n0 : Nat} {W : World} {F S Z Y : Array Value} {δ : Nat → Bool} {a : Act} {wx : World} (h : eatC n0 W F S Z Y δ a wx) (hn : n0 = W.heap.size) (h6 : δ 6 = false) (h8 : 8 < a.tmps.size) :
    eatC n0 W F S Z Y (upd δ 4) (a.put (some 8) (.pointer (some ⟨wx.heap.size, 0, none⟩))) (wx.alloc (.cells Y 24)) := by
  obtain ⟨h1, h2, h3⟩ := h
  have hs := h1.size
  refine ⟨h1.alloc (by omega) _, fun h => ?_, fun _ => ⟨wx.heap.size, put_getD_same _ _ _ h8, by omega, ?_⟩⟩
  · rw [upd_other δ (by omega)] at h
    obtain ⟨g, e, hg, hc⟩ := h2 h
    refine ⟨g, by rw [put_getD_ne _ _ _ _ (by simp)]; exact e, hg, ?_⟩
    rw [upd_other δ (by omega), ((Below.refl _ wx).alloc (Nat.le_refl _) _).block _ (Array.getElem?_eq_some_iff.1 hc).1]; exact hc
  · rw [upd_other δ (by omega), h6]; exact heap_alloc_new wx _
theorem eatC_s7 {n0 : Nat} {W : World} {F S Z Y : Array Value} {δ : Nat → Bool} {a : Act} {wx w' : World} (h : eatC n0 W F S Z Y δ a wx) {v : Value} {g : Nat} (hg : a.tmps.getD 7 undef = .pointer (some ⟨g, 0, none⟩)) (hge : n0 ≤ g) (hg69 : ∃ C, wx.heap[g]? = some (.cells C 69 (0, 0)))
    (hb : w'.heap[g]? = some (.cells F 69 (0, 0))) (hs : Save (· ≠ g) wx w') : eatC n0 W F S Z Y (upd δ 5) (a.put none v) w' := by
  obtain ⟨h1, h2, h3⟩ := h
  refine ⟨⟨hs.os.trans h1.os, hs.tape.trans h1.tape, hs.output.trans h1.output, Nat.le_trans h1.size hs.size, fun k hk => ?_⟩, fun h => ⟨g, hg, hge, ?_⟩, fun h => ?_⟩
  · by_cases hkw : k < wx.heap.size
    · exact (hs.block k hkw (by omega)).trans (h1.block k hk)
    · have := (Array.getElem?_eq_some_iff.1 hg69.choose_spec).1
      omega
  · rw [upd_same]; exact hb
  · rw [upd_other δ (by omega)] at h
    obtain ⟨k, e, hk, hc⟩ := h3 h
    refine ⟨k, e, hk, ?_⟩
    obtain ⟨C, hC⟩ := hg69
    have hne : k ≠ g := by
      rintro rfl
      rw [hC] at hc
      injection hc with hc
      injection hc with _ hc
      exact absurd hc (by decide)
    rw [upd_other δ (by omega), hs.block k (Array.getElem?_eq_some_iff.1 hc).1 hne]; exact hc
theorem eatC_s8 {n0 : Nat} {W : World} {F S Z Y : Array Value} {δ : Nat → Bool} {a : Act} {wx w' : World} (h : eatC n0 W F S Z Y δ a wx) {v : Value} {g : Nat} (hg : a.tmps.getD 8 undef = .pointer (some ⟨g, 0, none⟩)) (hge : n0 ≤ g) (hg24 : ∃ C, wx.heap[g]? = some (.cells C 24 (0, 0)))
    (hb : w'.heap[g]? = some (.cells S 24 (0, 0))) (hs : Save (· ≠ g) wx w') : eatC n0 W F S Z Y (upd δ 6) (a.put none v) w' := by
  obtain ⟨h1, h2, h3⟩ := h
  refine ⟨⟨hs.os.trans h1.os, hs.tape.trans h1.tape, hs.output.trans h1.output, Nat.le_trans h1.size hs.size, fun k hk => ?_⟩, fun h => ?_, fun h => ⟨g, hg, hge, ?_⟩⟩
  · by_cases hkw : k < wx.heap.size
    · exact (hs.block k hkw (by omega)).trans (h1.block k hk)
    · have := (Array.getElem?_eq_some_iff.1 hg24.choose_spec).1
      omega
  · rw [upd_other δ (by omega)] at h
    obtain ⟨k, e, hk, hc⟩ := h2 h
    refine ⟨k, e, hk, ?_⟩
    obtain ⟨C, hC⟩ := hg24
    have hne : k ≠ g := by
      rintro rfl
      rw [hC] at hc
      injection hc with hc
      injection hc with _ hc
      exact absurd hc (by decide)
    rw [upd_other δ (by omega), hs.block k (Array.getElem?_eq_some_iff.1 hc).1 hne]; exact hc
  · rw [upd_same]; exact hb

theorem eatT_any {a : Option Addr} {c : Nat} {F S : Array Value} {d : Nat} {v : Value} {w w' : World} (h : eatT a c F S d v w) : eatT a c F S d v w' := by
  unfold eatT at *
  split at h <;> simp_all
theorem arr_get {T : TypeId} {w : World} {b : Nat} {S : List UInt32} (h : Arr T w b S) (i : Nat) (hi : i < S.length) : w.cell? ⟨b, i, none⟩ = some (vw (S.getD i 0)) := by
  rw [h.cell i hi]; simp [hi]
theorem arr_lit {T : TypeId} {n : Nat} (hT : Try.prog.underlying T = some (.array n 22)) (b i : Nat) (hi : i < n) (w : World) (j : Int) (hj : j = (i : Int)) :
    (Instr.indexAt T (.pointer (some ⟨b, 0, none⟩)) (.int .i64 j)).run Try.prog w = .ok (.pointer (some ⟨b, i, none⟩)) w := by
  subst hj; exact arr_index hT b i hi w
theorem wpList_copy_run {P : Program} {ops : Array Oper} {rest : List Oper} {o : Oper} {act : Act} {w : World} {Q : Exit → Act → World → Prop} (hgd : o.guard = none) (d s : Operand) (t t' : TypeId)
    (ho : o.op = .call { callee := .builtin .copy, args := #[d, s], argTypes := #[t, t'] }) (v u : Value) (hd : act.eval d = v) (hs : act.eval s = u) {v' : Value} {w' : World}
    (hr : (Builtin.copy_ #[t, t'] o.type #[v, u]).run P w = .ok v' w') (h : wpList P ops Q rest (act.put o.dst v') w') : wpList P ops Q (o :: rest) act w :=
  wpList_plain hgd fun _ hK => Lib.wp_copy_run w d s t t' ho v u hd hs hr (hK _ _ h)
theorem state_from1 (g : Nat) (w : World) : (Instr.sliceAt 24 (.pointer (some ⟨g, 0, none⟩)) (some (.int .i64 1)) none none).run Try.prog w = .ok (.slice (some ⟨g, 1, none⟩) 7 7) w := by
  have hT : Try.prog.underlying 24 = some (.array 8 22) := Try.underlying24
  have he : Try.prog.elem 24 = 22 := by simp [Program.elem, hT]
  have hl : Try.prog.arrayLen 24 = 8 := by simp [Program.arrayLen, hT]
  rw [run_sliceAt_array_l _ _ _ (by rw [he, hl]; exact hT) _ _ (by decide) (by rw [hl]; decide), he, szW, hl]
  rfl
theorem state_upto7 (g : Nat) (w : World) : (Instr.sliceAt 24 (.pointer (some ⟨g, 0, none⟩)) none (some (.int .i64 7)) none).run Try.prog w = .ok (.slice (some ⟨g, 0, none⟩) 7 8) w := by
  have hT : Try.prog.underlying 24 = some (.array 8 22) := Try.underlying24
  have he : Try.prog.elem 24 = 22 := by simp [Program.elem, hT]
  have hl : Try.prog.arrayLen 24 = 8 := by simp [Program.arrayLen, hT]
  rw [run_sliceAt_array_h _ _ _ (by rw [he, hl]; exact hT) _ _ (by decide) (by rw [hl]; decide), he, szW, hl]
  rfl
/-- copy(x[1:], x[:7]). -/
theorem state_copy (w : World) (g : Nat) (x : S8) (h : Arr 24 w g x.l) (ty : TypeId) :
    ∃ w', (Builtin.copy_ #[33, 33] ty #[.slice (some ⟨g, 1, none⟩) 7 7, .slice (some ⟨g, 0, none⟩) 7 8]).run Try.prog w = .ok (.int .i64 7) w' ∧ Arr 24 w' g [x.a, x.a, x.b, x.c, x.d, x.e, x.f, x.g] ∧ Save (· ≠ g) w w' := by
  have hu : Try.prog.underlying 33 = some (.slice 22) := Try.underlying33
  have hr := run_copy_cells (P := Try.prog) w 33 33 ty 22 g 1 7 7 ⟨g, 0, none⟩ 7 8 ([x.a, x.b, x.c, x.d, x.e, x.f, x.g].map vw) hu (by kernel_rfl) rfl
    (fun j v hj => by
      have hjl : j < 7 := (List.getElem?_eq_some_iff.1 hj).1
      have e : (⟨g, 0, none⟩ : Addr).add j = ⟨g, j, none⟩ := by unfold Addr.add; split <;> simp_all
      rw [e, h.cell j (by simp [S8.l]; omega), ← hj, List.getElem?_map]
      match j, hjl with
      | 0, _ => rfl
      | 1, _ => rfl
      | 2, _ => rfl
      | 3, _ => rfl
      | 4, _ => rfl
      | 5, _ => rfl
      | 6, _ => rfl)
    (fun j hj => by
      have hjl : j < 7 := hj
      rw [h.cell (1 + j) (by simp [S8.l]; omega)]; rfl)
    (fun j _ => h.free _) (fun v hv => by obtain ⟨y, _, rfl⟩ := List.mem_map.1 hv; rfl)
  refine ⟨_, hr, ?_, ?_⟩
  · have := ((((((h.set 1 x.a).set 2 x.b).set 3 x.c).set 4 x.d).set 5 x.e).set 6 x.f).set 7 x.g
    exact this
  · exact (((((Save.set.trans Save.set).trans Save.set).trans Save.set).trans Save.set).trans Save.set).trans Save.set
theorem plus_next (x s : S8) : ∀ k, k < 8 → ((x.plus s).l.take k ++ x.l.drop k).set k (wAdd (x.l.getD k 0) (s.l.getD k 0)) = (x.plus s).l.take (k + 1) ++ x.l.drop (k + 1)
  | 0, _ => rfl
  | 1, _ => rfl
  | 2, _ => rfl
  | 3, _ => rfl
  | 4, _ => rfl
  | 5, _ => rfl
  | 6, _ => rfl
  | 7, _ => rfl
theorem plus_get (x s : S8) : ∀ k, k < 8 → ((x.plus s).l.take k ++ x.l.drop k).getD k 0 = x.l.getD k 0
  | 0, _ => rfl
  | 1, _ => rfl
  | 2, _ => rfl
  | 3, _ => rfl
  | 4, _ => rfl
  | 5, _ => rfl
  | 6, _ => rfl
  | 7, _ => rfl
end Go.Proofs.Ytiemafgnpmoblaa
