/- The wire laws' own back: a field of a kind, taken of a reader. -/
import Derived.Test.YtglmijcfdcajkaaWireTag2
import Derived.Test.YtglmijcfdcajkaaWireFlds
import Derived.Deep.MidRow
namespace Go.Proofs.Ytglmijcfdcajkaa
open Go Go.RowKit Go.Cit

def Fl0 (k : Int) : Fl := ⟨k, 0, 0, false, none, [], 0, zeros32⟩
theorem flRow : RowType Try.prog 31 37 := ⟨⟨_, Try.underlying31, rfl⟩, by kernel_rfl⟩
theorem alloc_fl (ρ : Operand → Value) (d : Option Tmp) (ty : TypeId) (ps : String) {af} (w : World) :
    (execOp ρ { dst := d, op := Op.alloc 31, type := ty, pos := ps, after := af, guard := none }).run Try.prog w = .ok (.value (.pointer (some ⟨w.heap.size, 0, none⟩))) (w.alloc (.cells (Fl0 0).cs.toArray 31)) := by
  kernel_rfl
theorem build_fl0 (ρ : Operand → Value) (d : Option Tmp) (ty : TypeId) (ps : String) {af} (x : Operand) (k : Int) (hx : ρ x = .int .i64 k) (w : World) :
    (execOp ρ { dst := d, op := Op.build 31 #[(0, x)], type := ty, pos := ps, after := af, guard := none }).run Try.prog w = .ok (.value (.agg (Fl0 k).cs.toArray)) w := by
  unfold execOp; dsimp only
  rw [show (#[((0 : Nat), x)].map fun (i, x) => (i, ρ x)) = #[(0, Value.int .i64 k)] by simp [hx]]
  kernel_rfl
theorem fl_one (f : Fl) (h : f.t.length = 32) : f.cs.toArray.size = 37 ∧ f.cs.toArray.all (·.oneCell') = true := by
  refine ⟨by simp [Fl.cs, h], ?_⟩
  simp [Fl.cs, Value.oneCell']

/-- Cells of a block. -/
def CellsAt (w : World) (b : Nat) (cs : List Value) : Prop := ∀ j v, cs[j]? = some v → w.cell? ⟨b, j, none⟩ = some v
theorem cellsAt_of {w : World} {b : Nat} {C : Array Value} {T : TypeId} {fr : Nat × Nat} {cs : List Value} (h : w.heap[b]? = some (.cells C T fr)) (hc : C = cs.toArray) : CellsAt w b cs := by
  intro j v hv
  subst hc
  simpa [World.cell?, h] using hv
theorem cellsAt_set {w : World} {b : Nat} {cs : List Value} (h : CellsAt w b cs) (i : Nat) (v : Value) (hi : i < cs.length) : CellsAt (w.setCell ⟨b, i, none⟩ v) b (cs.set i v) := by
  intro j u hu
  by_cases e : i = j
  · subst e
    rw [List.getElem?_set_self hi] at hu
    rw [World.cell?_setCell_same' _ _ _ (by rw [h i _ (List.getElem?_eq_getElem hi)]; rfl)]
    exact hu
  · rw [List.getElem?_set_ne e] at hu
    rw [World.cell?_setCell_other _ _ _ _ (by simp [e])]
    exact h j u hu
theorem cellsAt_setCells {w : World} {b : Nat} {l1 l2 vs : List Value} (h : CellsAt w b (l1 ++ l2)) (hl : l2.length = vs.length) : CellsAt (w.setCells b l1.length vs) b (l1 ++ vs) := by
  have hin := World.cell?_setCells_in b vs l1.length w (fun j hj => by
    have hj2 : j < l2.length := by omega
    rw [h (l1.length + j) l2[j] (by rw [List.getElem?_append_right (by omega), Nat.add_sub_cancel_left, List.getElem?_eq_getElem hj2])]
    rfl)
  have hout := World.cell?_setCells_out b vs l1.length w
  intro j u hu
  by_cases h1 : j < l1.length
  · rw [List.getElem?_append_left h1] at hu
    rw [hout ⟨b, j, none⟩ (fun _ _ => Or.inl h1)]
    exact h j u (by rw [List.getElem?_append_left h1]; exact hu)
  · obtain ⟨d, rfl⟩ : ∃ d, j = l1.length + d := ⟨j - l1.length, by omega⟩
    rw [List.getElem?_append_right (by omega), Nat.add_sub_cancel_left] at hu
    have hd : d < vs.length := (List.getElem?_eq_some_iff.1 hu).1
    rw [hin d hd, ← hu, List.getElem?_eq_getElem hd]
theorem save_setCells {b : Nat} : ∀ (vs : List Value) (o : Nat) (w : World), Save (· ≠ b) w (w.setCells b o vs)
  | [], _, w => Save.refl _ w
  | v :: vs, o, w => (Save.set (b := b) (i := o) (v := v)).trans (save_setCells vs (o + 1) _)

theorem load_cells {w : World} {b : Nat} {cs : List Value} (h : CellsAt w b cs) (hl : cs.length = 37) : (Instr.loadAt 31 (.pointer (some ⟨b, 0, none⟩))).run Try.prog w = .ok (.agg cs.toArray) w :=
  run_loadAt_mid w b 0 31 cs _ (fun j v hv => by rw [Nat.zero_add]; exact h j v hv) Try.underlying31 rfl (by rw [hl]; kernel_rfl)

theorem bytes_le (s : St) : s.bytes.1.length ≤ s.l.length := by
  have hn : ∀ (s : St) (n : Nat), (∀ x, (s.next n).1 = some x → x.length ≤ s.l.length) ∧ (s.next n).2.l.length ≤ s.l.length := by
    intro s n
    unfold St.next
    split
    · exact ⟨fun x h => by simp at h, Nat.le_refl _⟩
    · split
      · exact ⟨fun x h => by simp at h; rw [← h, List.length_take]; omega, by simp⟩
      · exact ⟨fun x h => by simp at h, by simp [St.broke]⟩
  have hr : ∀ (s : St) (n : Nat), (s.read n fAll []).1.length ≤ s.l.length := by
    intro s n
    have h := (hn s n).1
    unfold St.read
    split
    · rename_i x s' hx
      have := h x (by rw [hx])
      simpa [fAll] using this
    · exact Nat.zero_le _
  have hl : (s.read 4 fLen 0).2.l.length ≤ s.l.length := by
    have h := (hn s 4).2
    unfold St.read
    split
    · rename_i x s' hx
      rw [hx] at h
      split
      · exact h
      · simp [St.broke]
    · rename_i s' hx
      rw [hx] at h; exact h
  unfold St.bytes
  split
  · exact Nat.le_trans (hr _ _) hl
  · exact Nat.zero_le _

/-- The field that is taken, the reader behind it. -/
def backIs (k : Int) (s : St) (f : Fl) (s' : St) : Prop :=
  f.what = k ∧ f.x = (if k = 0 then (s.read 1 fByte 0).1 else 0) ∧ f.n = (if k = 1 then (s.read 8 fInt 0).1 else 0) ∧ f.is = (if k = 2 then (s.read 1 fFlag false).1 else false) ∧
    f.l = (if k = 3 ∨ k = 4 then (s.bytes).1 else []) ∧ f.t = (if k = 5 then (s.read 32 fTag zeros32).1 else zeros32) ∧
    s' = (if k = 0 then (s.read 1 fByte 0).2 else if k = 1 then (s.read 8 fInt 0).2 else if k = 2 then (s.read 1 fFlag false).2 else if k = 3 ∨ k = 4 then (s.bytes).2 else if k = 5 then (s.read 32 fTag zeros32).2 else s)
/-- What back leaves. -/
def Back (base top : Nat) (w : World) (b : Nat) (k : Int) (s : St) (r : Ending) (w' : World) : Prop :=
  ∃ f s', Hid (backIs k s f s') ∧ r = .returned (.agg f.cs.toArray) ∧ f.At w' ∧ (f.l ≠ [] → ∀ g, Go.Cit.blk f.a = some g → w.heap.size ≤ g) ∧ RdAt base top w' b s' ∧ Save (· ≠ b) w w'

theorem fint_range (s : St) : -9223372036854775808 ≤ (s.read 8 fInt 0).1 ∧ (s.read 8 fInt 0).1 ≤ 9223372036854775807 := by
  have hr : ∀ x : UInt64, -9223372036854775808 ≤ i64Q x ∧ i64Q x ≤ 9223372036854775807 := fun x => by
    unfold i64Q wrap64; omega
  have hz : -9223372036854775808 ≤ (0 : Int) ∧ (0 : Int) ≤ 9223372036854775807 := by omega
  unfold St.read
  split
  · rename_i x s' _
    cases hf : (fInt x).2 with
    | true => simp only [if_true]; exact hr _
    | false => exact hz
  · exact hz

set_option maxRecDepth 100000 in
set_option maxHeartbeats 4000000 in
theorem back0_calls {base top w b a l c e} (h : Rd base top w b a l c e) (k : Int) (hk9 : -9223372036854775808 ≤ k ∧ k ≤ 9223372036854775807) (ht : top ≤ w.heap.size) (hk : k = 0) :
    Calls Try.prog 36 #[.pointer (some ⟨b, 0, none⟩), .int .i64 k] w (Back base top w b k ⟨l, e⟩) := by
  have g0 : (k == 0) = true := by rw [hk]; rfl
  have g1 : (k == 1) = false := by rw [hk]; rfl
  have g2 : (k == 2) = false := by rw [hk]; rfl
  have g3 : (k == 3) = false := by rw [hk]; rfl
  have g4 : (k == 4) = false := by rw [hk]; rfl
  have g5 : (k == 5) = false := by rw [hk]; rfl
  have HK := Lib.hid hk
  clear hk
  have HA := Lib.hid (fun ρ d ty ps af w => alloc_fl ρ d ty ps (af := af) w)
  have HB := Lib.hid (fun ρ d ty ps af x hx w => build_fl0 ρ d ty ps (af := af) x k hx w)
  have HZ := Lib.hid (fl_one (Fl0 0) rfl)
  have HZk := Lib.hid (fl_one (Fl0 k) rfl)
  obtain ⟨Z, hZ⟩ : ∃ Z, Hid (Z = (Fl0 0).cs.toArray) := ⟨_, rfl⟩
  obtain ⟨Zk, hZk⟩ : ∃ Z, Hid (Z = (Fl0 k).cs.toArray) := ⟨_, rfl⟩
  rw [← hZ.out] at HA HZ
  rw [← hZk.out] at HB HZk
  have hlt := h.lt
  have b0 := Lib.hid (heap_alloc_new w (.cells Z 31))
  have b1 := Lib.hid (heap_alloc_new (w.alloc (.cells Z 31)) (.cells Z 31))
  have SZ : Hid ((w.alloc (.cells Z 31)).heap.size = w.heap.size + 1) := by simp [Hid]
  have g1 : Below w.heap.size w ((w.alloc (.cells Z 31)).alloc (.cells Z 31)) := ((Below.refl _ _).alloc (Nat.le_refl _) _).alloc (by simp) _
  have b0 := Lib.hid ((Below.heap_alloc (w.alloc (.cells Z 31)) (.cells Z 31) w.heap.size (by simp)).trans b0.out)
  have SZ2 : Hid (((w.alloc (.cells Z 31)).alloc (.cells Z 31)).heap.size = w.heap.size + 2) := by simp [Hid]
  go_enter Try.func36, Try.ntmps36
  go_wp2_with (first
    | ((with_reducible refine wpList_value (o := ⟨some 4, .alloc _, _, _, _, _⟩) (by with_unfolding_all rfl) (HA.out _ _ _ _ _ _) ?_))
    | ((with_reducible refine wpList_value (o := ⟨some 5, .alloc _, _, _, _, _⟩) (by with_unfolding_all rfl) (HA.out _ _ _ _ _ _) ?_))
    | ((with_reducible refine wpList_value (o := ⟨some 7, .build _ _, _, _, _, _⟩) (by with_unfolding_all rfl) (HB.out _ _ _ _ _ _ (by with_unfolding_all rfl) _) ?_))
    | ((with_reducible refine wpList_storeB (o := ⟨none, .store 31 (.tmp 5) (.tmp 7), _, _, _, _⟩) flRow (.tmp 5) (.tmp 7) (by with_unfolding_all rfl) (by with_unfolding_all rfl) (by with_unfolding_all rfl) (by with_unfolding_all rfl) (by with_unfolding_all rfl) b1.out HZ.out.1 HZk.out.1 HZk.out.2 ?_); intro w1 hb1 hS1; rw [SZ.out] at hb1 hS1))
  have hs1 := hS1.size
  rw [SZ2.out] at hs1
  have h1 : Rd base top w1 b a l c e := (h.stay g1).save hS1 (by omega) (fun hne g hg => by have := (h.off hne g hg).2.2; omega)
  have hbz : Hid (w1.heap[w.heap.size]? = some (.cells Z 31)) := (hS1.block w.heap.size (by rw [SZ2.out]; omega) (by omega)).trans b0.out
  obtain ⟨q, hq⟩ : ∃ q, Hid (q = St.read ⟨l, e⟩ 1 fByte 0) := ⟨_, rfl⟩
  have hc := rbyte_calls h1
  rw [← hq.out] at hc
  refine Calls.mono hc ?_
  rintro r w2 ⟨rfl, hR, hS2⟩
  clear hc
  have hs2 := hS2.size
  have hb2 : w2.heap[w.heap.size + 1]? = some (.cells Zk 31) := (hS2.block (w.heap.size + 1) (by omega) (by omega)).trans hb1
  have hbz2 : Hid (w2.heap[w.heap.size]? = some (.cells Z 31)) := (hS2.block w.heap.size (by omega) (by omega)).trans hbz.out
  have HC2 : Hid (CellsAt w2 (w.heap.size + 1) (Fl0 k).cs) := cellsAt_of hb2 hZk.out
  have hcell : w2.cell? ⟨w.heap.size + 1, 1, none⟩ = some ((Fl0 k).cs[1]'(show _ < 37 by decide)) := HC2.out 1 _ rfl
  have hfree : w2.frozen? ⟨w.heap.size + 1, 1, none⟩ = false := by simp [World.frozen?, hb2]
  have HC3 : Hid (CellsAt (w2.setCell ⟨w.heap.size + 1, 1, none⟩ (vb q.1)) (w.heap.size + 1) (Fl.cs ⟨k, q.1, 0, false, none, [], 0, zeros32⟩)) := cellsAt_set HC2.out 1 (vb q.1) (show _ < 37 by decide)
  have HL : Hid ((Instr.loadAt 31 (.pointer (some ⟨w.heap.size + 1, 0, none⟩))).run Try.prog (w2.setCell ⟨w.heap.size + 1, 1, none⟩ (vb q.1)) = .ok (.agg (Fl.cs ⟨k, q.1, 0, false, none, [], 0, zeros32⟩).toArray) (w2.setCell ⟨w.heap.size + 1, 1, none⟩ (vb q.1))) := load_cells HC3.out rfl
  have hS3 : Save (· ≠ w.heap.size + 1) w2 (w2.setCell ⟨w.heap.size + 1, 1, none⟩ (vb q.1)) := Save.set
  have hbz3 : Hid ((w2.setCell ⟨w.heap.size + 1, 1, none⟩ (vb q.1)).heap[w.heap.size]? = some (.cells Z 31)) := (hS3.block w.heap.size (by omega) (by omega)).trans hbz2.out
  have HF := Lib.hid (fl_one ⟨k, q.1, 0, false, none, [], 0, zeros32⟩ rfl)
  go_wp2_with (first
    | ((with_reducible refine wpList_load_op (o := ⟨some 40, .load 31 (.tmp 5), _, _, _, _⟩) (by with_unfolding_all rfl) (by with_unfolding_all rfl) (by with_unfolding_all rfl) HL.out ?_))
    | ((with_reducible refine wpList_storeB (o := ⟨none, .store 31 (.tmp 4) (.tmp 40), _, _, _, _⟩) flRow (.tmp 4) (.tmp 40) (by with_unfolding_all rfl) (by with_unfolding_all rfl) (by with_unfolding_all rfl) (by with_unfolding_all rfl) (by with_unfolding_all rfl) hbz3.out HZ.out.1 HF.out.1 HF.out.2 ?_); intro w4 hb4 hS4))
  have hs4 := hS4.size
  have hS34 : Save (fun k => k < w.heap.size) w2 w4 := (hS3.less (fun k _ hk => by omega)).trans (hS4.less (fun k _ hk => by omega))
  refine bodyPost_ret (resB1 flRow rfl rfl hb4 HF.out.1) rfl ⟨⟨k, q.1, 0, false, none, [], 0, zeros32⟩, q.2, ?_, rfl, ⟨Row.nil_ _, rfl, show (-9223372036854775808 : Int) ≤ 0 ∧ (0 : Int) ≤ 9223372036854775807 by decide, hk9, Nat.zero_le _⟩, fun h => absurd rfl h, hR.save hS34 hlt (fun g _ hg => by omega), ?_⟩
  · have hk := HK.out
    subst hk
    rw [hq.out]
    exact ⟨rfl, rfl, rfl, rfl, rfl, rfl, rfl⟩
  · have hS5 : Save (fun k => k < w.heap.size ∧ k ≠ b) w w4 := (Save.of g1).trans ((hS1.less (fun k _ hk => by omega)).trans ((hS2.less (fun k _ hk => hk.2)).trans (hS34.less (fun k _ hk => hk.1))))
    exact hS5.less (fun k hk hkb => ⟨hk, hkb⟩)

set_option maxRecDepth 100000 in
set_option maxHeartbeats 4000000 in
theorem back1_calls {base top w b a l c e} (h : Rd base top w b a l c e) (k : Int) (hk9 : -9223372036854775808 ≤ k ∧ k ≤ 9223372036854775807) (ht : top ≤ w.heap.size) (hk : k = 1) :
    Calls Try.prog 36 #[.pointer (some ⟨b, 0, none⟩), .int .i64 k] w (Back base top w b k ⟨l, e⟩) := by
  have g0 : (k == 0) = false := by rw [hk]; rfl
  have g1 : (k == 1) = true := by rw [hk]; rfl
  have g2 : (k == 2) = false := by rw [hk]; rfl
  have g3 : (k == 3) = false := by rw [hk]; rfl
  have g4 : (k == 4) = false := by rw [hk]; rfl
  have g5 : (k == 5) = false := by rw [hk]; rfl
  have HK := Lib.hid hk
  clear hk
  have HA := Lib.hid (fun ρ d ty ps af w => alloc_fl ρ d ty ps (af := af) w)
  have HB := Lib.hid (fun ρ d ty ps af x hx w => build_fl0 ρ d ty ps (af := af) x k hx w)
  have HZ := Lib.hid (fl_one (Fl0 0) rfl)
  have HZk := Lib.hid (fl_one (Fl0 k) rfl)
  obtain ⟨Z, hZ⟩ : ∃ Z, Hid (Z = (Fl0 0).cs.toArray) := ⟨_, rfl⟩
  obtain ⟨Zk, hZk⟩ : ∃ Z, Hid (Z = (Fl0 k).cs.toArray) := ⟨_, rfl⟩
  rw [← hZ.out] at HA HZ
  rw [← hZk.out] at HB HZk
  have hlt := h.lt
  have b0 := Lib.hid (heap_alloc_new w (.cells Z 31))
  have b1 := Lib.hid (heap_alloc_new (w.alloc (.cells Z 31)) (.cells Z 31))
  have SZ : Hid ((w.alloc (.cells Z 31)).heap.size = w.heap.size + 1) := by simp [Hid]
  have g1 : Below w.heap.size w ((w.alloc (.cells Z 31)).alloc (.cells Z 31)) := ((Below.refl _ _).alloc (Nat.le_refl _) _).alloc (by simp) _
  have b0 := Lib.hid ((Below.heap_alloc (w.alloc (.cells Z 31)) (.cells Z 31) w.heap.size (by simp)).trans b0.out)
  have SZ2 : Hid (((w.alloc (.cells Z 31)).alloc (.cells Z 31)).heap.size = w.heap.size + 2) := by simp [Hid]
  go_enter Try.func36, Try.ntmps36
  go_wp2_with (first
    | ((with_reducible refine wpList_value (o := ⟨some 4, .alloc _, _, _, _, _⟩) (by with_unfolding_all rfl) (HA.out _ _ _ _ _ _) ?_))
    | ((with_reducible refine wpList_value (o := ⟨some 5, .alloc _, _, _, _, _⟩) (by with_unfolding_all rfl) (HA.out _ _ _ _ _ _) ?_))
    | ((with_reducible refine wpList_value (o := ⟨some 7, .build _ _, _, _, _, _⟩) (by with_unfolding_all rfl) (HB.out _ _ _ _ _ _ (by with_unfolding_all rfl) _) ?_))
    | ((with_reducible refine wpList_storeB (o := ⟨none, .store 31 (.tmp 5) (.tmp 7), _, _, _, _⟩) flRow (.tmp 5) (.tmp 7) (by with_unfolding_all rfl) (by with_unfolding_all rfl) (by with_unfolding_all rfl) (by with_unfolding_all rfl) (by with_unfolding_all rfl) b1.out HZ.out.1 HZk.out.1 HZk.out.2 ?_); intro w1 hb1 hS1; rw [SZ.out] at hb1 hS1))
  have hs1 := hS1.size
  rw [SZ2.out] at hs1
  have h1 : Rd base top w1 b a l c e := (h.stay g1).save hS1 (by omega) (fun hne g hg => by have := (h.off hne g hg).2.2; omega)
  have hbz : Hid (w1.heap[w.heap.size]? = some (.cells Z 31)) := (hS1.block w.heap.size (by rw [SZ2.out]; omega) (by omega)).trans b0.out
  obtain ⟨q, hq⟩ : ∃ q, Hid (q = St.read ⟨l, e⟩ 8 fInt 0) := ⟨_, rfl⟩
  have hc := rint_calls h1
  rw [← hq.out] at hc
  refine Calls.mono hc ?_
  rintro r w2 ⟨rfl, hR, hS2⟩
  clear hc
  have hs2 := hS2.size
  have hb2 : w2.heap[w.heap.size + 1]? = some (.cells Zk 31) := (hS2.block (w.heap.size + 1) (by omega) (by omega)).trans hb1
  have hbz2 : Hid (w2.heap[w.heap.size]? = some (.cells Z 31)) := (hS2.block w.heap.size (by omega) (by omega)).trans hbz.out
  have HC2 : Hid (CellsAt w2 (w.heap.size + 1) (Fl0 k).cs) := cellsAt_of hb2 hZk.out
  have hcell : w2.cell? ⟨w.heap.size + 1, 2, none⟩ = some ((Fl0 k).cs[2]'(show _ < 37 by decide)) := HC2.out 2 _ rfl
  have hfree : w2.frozen? ⟨w.heap.size + 1, 2, none⟩ = false := by simp [World.frozen?, hb2]
  have HC3 : Hid (CellsAt (w2.setCell ⟨w.heap.size + 1, 2, none⟩ (.int .i64 q.1)) (w.heap.size + 1) (Fl.cs ⟨k, 0, q.1, false, none, [], 0, zeros32⟩)) := cellsAt_set HC2.out 2 (.int .i64 q.1) (show _ < 37 by decide)
  have HL : Hid ((Instr.loadAt 31 (.pointer (some ⟨w.heap.size + 1, 0, none⟩))).run Try.prog (w2.setCell ⟨w.heap.size + 1, 2, none⟩ (.int .i64 q.1)) = .ok (.agg (Fl.cs ⟨k, 0, q.1, false, none, [], 0, zeros32⟩).toArray) (w2.setCell ⟨w.heap.size + 1, 2, none⟩ (.int .i64 q.1))) := load_cells HC3.out rfl
  have hS3 : Save (· ≠ w.heap.size + 1) w2 (w2.setCell ⟨w.heap.size + 1, 2, none⟩ (.int .i64 q.1)) := Save.set
  have hbz3 : Hid ((w2.setCell ⟨w.heap.size + 1, 2, none⟩ (.int .i64 q.1)).heap[w.heap.size]? = some (.cells Z 31)) := (hS3.block w.heap.size (by omega) (by omega)).trans hbz2.out
  have HF := Lib.hid (fl_one ⟨k, 0, q.1, false, none, [], 0, zeros32⟩ rfl)
  go_wp2_with (first
    | ((with_reducible refine wpList_load_op (o := ⟨some 40, .load 31 (.tmp 5), _, _, _, _⟩) (by with_unfolding_all rfl) (by with_unfolding_all rfl) (by with_unfolding_all rfl) HL.out ?_))
    | ((with_reducible refine wpList_storeB (o := ⟨none, .store 31 (.tmp 4) (.tmp 40), _, _, _, _⟩) flRow (.tmp 4) (.tmp 40) (by with_unfolding_all rfl) (by with_unfolding_all rfl) (by with_unfolding_all rfl) (by with_unfolding_all rfl) (by with_unfolding_all rfl) hbz3.out HZ.out.1 HF.out.1 HF.out.2 ?_); intro w4 hb4 hS4))
  have hs4 := hS4.size
  have hS34 : Save (fun k => k < w.heap.size) w2 w4 := (hS3.less (fun k _ hk => by omega)).trans (hS4.less (fun k _ hk => by omega))
  refine bodyPost_ret (resB1 flRow rfl rfl hb4 HF.out.1) rfl ⟨⟨k, 0, q.1, false, none, [], 0, zeros32⟩, q.2, ?_, rfl, ⟨Row.nil_ _, rfl, by rw [hq.out]; exact fint_range _, hk9, Nat.zero_le _⟩, fun h => absurd rfl h, hR.save hS34 hlt (fun g _ hg => by omega), ?_⟩
  · have hk := HK.out
    subst hk
    rw [hq.out]
    exact ⟨rfl, rfl, rfl, rfl, rfl, rfl, rfl⟩
  · have hS5 : Save (fun k => k < w.heap.size ∧ k ≠ b) w w4 := (Save.of g1).trans ((hS1.less (fun k _ hk => by omega)).trans ((hS2.less (fun k _ hk => hk.2)).trans (hS34.less (fun k _ hk => hk.1))))
    exact hS5.less (fun k hk hkb => ⟨hk, hkb⟩)

set_option maxRecDepth 100000 in
set_option maxHeartbeats 4000000 in
theorem back2_calls {base top w b a l c e} (h : Rd base top w b a l c e) (k : Int) (hk9 : -9223372036854775808 ≤ k ∧ k ≤ 9223372036854775807) (ht : top ≤ w.heap.size) (hk : k = 2) :
    Calls Try.prog 36 #[.pointer (some ⟨b, 0, none⟩), .int .i64 k] w (Back base top w b k ⟨l, e⟩) := by
  have g0 : (k == 0) = false := by rw [hk]; rfl
  have g1 : (k == 1) = false := by rw [hk]; rfl
  have g2 : (k == 2) = true := by rw [hk]; rfl
  have g3 : (k == 3) = false := by rw [hk]; rfl
  have g4 : (k == 4) = false := by rw [hk]; rfl
  have g5 : (k == 5) = false := by rw [hk]; rfl
  have HK := Lib.hid hk
  clear hk
  have HA := Lib.hid (fun ρ d ty ps af w => alloc_fl ρ d ty ps (af := af) w)
  have HB := Lib.hid (fun ρ d ty ps af x hx w => build_fl0 ρ d ty ps (af := af) x k hx w)
  have HZ := Lib.hid (fl_one (Fl0 0) rfl)
  have HZk := Lib.hid (fl_one (Fl0 k) rfl)
  obtain ⟨Z, hZ⟩ : ∃ Z, Hid (Z = (Fl0 0).cs.toArray) := ⟨_, rfl⟩
  obtain ⟨Zk, hZk⟩ : ∃ Z, Hid (Z = (Fl0 k).cs.toArray) := ⟨_, rfl⟩
  rw [← hZ.out] at HA HZ
  rw [← hZk.out] at HB HZk
  have hlt := h.lt
  have b0 := Lib.hid (heap_alloc_new w (.cells Z 31))
  have b1 := Lib.hid (heap_alloc_new (w.alloc (.cells Z 31)) (.cells Z 31))
  have SZ : Hid ((w.alloc (.cells Z 31)).heap.size = w.heap.size + 1) := by simp [Hid]
  have g1 : Below w.heap.size w ((w.alloc (.cells Z 31)).alloc (.cells Z 31)) := ((Below.refl _ _).alloc (Nat.le_refl _) _).alloc (by simp) _
  have b0 := Lib.hid ((Below.heap_alloc (w.alloc (.cells Z 31)) (.cells Z 31) w.heap.size (by simp)).trans b0.out)
  have SZ2 : Hid (((w.alloc (.cells Z 31)).alloc (.cells Z 31)).heap.size = w.heap.size + 2) := by simp [Hid]
  go_enter Try.func36, Try.ntmps36
  go_wp2_with (first
    | ((with_reducible refine wpList_value (o := ⟨some 4, .alloc _, _, _, _, _⟩) (by with_unfolding_all rfl) (HA.out _ _ _ _ _ _) ?_))
    | ((with_reducible refine wpList_value (o := ⟨some 5, .alloc _, _, _, _, _⟩) (by with_unfolding_all rfl) (HA.out _ _ _ _ _ _) ?_))
    | ((with_reducible refine wpList_value (o := ⟨some 7, .build _ _, _, _, _, _⟩) (by with_unfolding_all rfl) (HB.out _ _ _ _ _ _ (by with_unfolding_all rfl) _) ?_))
    | ((with_reducible refine wpList_storeB (o := ⟨none, .store 31 (.tmp 5) (.tmp 7), _, _, _, _⟩) flRow (.tmp 5) (.tmp 7) (by with_unfolding_all rfl) (by with_unfolding_all rfl) (by with_unfolding_all rfl) (by with_unfolding_all rfl) (by with_unfolding_all rfl) b1.out HZ.out.1 HZk.out.1 HZk.out.2 ?_); intro w1 hb1 hS1; rw [SZ.out] at hb1 hS1))
  have hs1 := hS1.size
  rw [SZ2.out] at hs1
  have h1 : Rd base top w1 b a l c e := (h.stay g1).save hS1 (by omega) (fun hne g hg => by have := (h.off hne g hg).2.2; omega)
  have hbz : Hid (w1.heap[w.heap.size]? = some (.cells Z 31)) := (hS1.block w.heap.size (by rw [SZ2.out]; omega) (by omega)).trans b0.out
  obtain ⟨q, hq⟩ : ∃ q, Hid (q = St.read ⟨l, e⟩ 1 fFlag false) := ⟨_, rfl⟩
  have hc := rflag_calls h1
  rw [← hq.out] at hc
  refine Calls.mono hc ?_
  rintro r w2 ⟨rfl, hR, hS2⟩
  clear hc
  have hs2 := hS2.size
  have hb2 : w2.heap[w.heap.size + 1]? = some (.cells Zk 31) := (hS2.block (w.heap.size + 1) (by omega) (by omega)).trans hb1
  have hbz2 : Hid (w2.heap[w.heap.size]? = some (.cells Z 31)) := (hS2.block w.heap.size (by omega) (by omega)).trans hbz.out
  have HC2 : Hid (CellsAt w2 (w.heap.size + 1) (Fl0 k).cs) := cellsAt_of hb2 hZk.out
  have hcell : w2.cell? ⟨w.heap.size + 1, 3, none⟩ = some ((Fl0 k).cs[3]'(show _ < 37 by decide)) := HC2.out 3 _ rfl
  have hfree : w2.frozen? ⟨w.heap.size + 1, 3, none⟩ = false := by simp [World.frozen?, hb2]
  have HC3 : Hid (CellsAt (w2.setCell ⟨w.heap.size + 1, 3, none⟩ (.bool q.1)) (w.heap.size + 1) (Fl.cs ⟨k, 0, 0, q.1, none, [], 0, zeros32⟩)) := cellsAt_set HC2.out 3 (.bool q.1) (show _ < 37 by decide)
  have HL : Hid ((Instr.loadAt 31 (.pointer (some ⟨w.heap.size + 1, 0, none⟩))).run Try.prog (w2.setCell ⟨w.heap.size + 1, 3, none⟩ (.bool q.1)) = .ok (.agg (Fl.cs ⟨k, 0, 0, q.1, none, [], 0, zeros32⟩).toArray) (w2.setCell ⟨w.heap.size + 1, 3, none⟩ (.bool q.1))) := load_cells HC3.out rfl
  have hS3 : Save (· ≠ w.heap.size + 1) w2 (w2.setCell ⟨w.heap.size + 1, 3, none⟩ (.bool q.1)) := Save.set
  have hbz3 : Hid ((w2.setCell ⟨w.heap.size + 1, 3, none⟩ (.bool q.1)).heap[w.heap.size]? = some (.cells Z 31)) := (hS3.block w.heap.size (by omega) (by omega)).trans hbz2.out
  have HF := Lib.hid (fl_one ⟨k, 0, 0, q.1, none, [], 0, zeros32⟩ rfl)
  go_wp2_with (first
    | ((with_reducible refine wpList_load_op (o := ⟨some 40, .load 31 (.tmp 5), _, _, _, _⟩) (by with_unfolding_all rfl) (by with_unfolding_all rfl) (by with_unfolding_all rfl) HL.out ?_))
    | ((with_reducible refine wpList_storeB (o := ⟨none, .store 31 (.tmp 4) (.tmp 40), _, _, _, _⟩) flRow (.tmp 4) (.tmp 40) (by with_unfolding_all rfl) (by with_unfolding_all rfl) (by with_unfolding_all rfl) (by with_unfolding_all rfl) (by with_unfolding_all rfl) hbz3.out HZ.out.1 HF.out.1 HF.out.2 ?_); intro w4 hb4 hS4))
  have hs4 := hS4.size
  have hS34 : Save (fun k => k < w.heap.size) w2 w4 := (hS3.less (fun k _ hk => by omega)).trans (hS4.less (fun k _ hk => by omega))
  refine bodyPost_ret (resB1 flRow rfl rfl hb4 HF.out.1) rfl ⟨⟨k, 0, 0, q.1, none, [], 0, zeros32⟩, q.2, ?_, rfl, ⟨Row.nil_ _, rfl, show (-9223372036854775808 : Int) ≤ 0 ∧ (0 : Int) ≤ 9223372036854775807 by decide, hk9, Nat.zero_le _⟩, fun h => absurd rfl h, hR.save hS34 hlt (fun g _ hg => by omega), ?_⟩
  · have hk := HK.out
    subst hk
    rw [hq.out]
    exact ⟨rfl, rfl, rfl, rfl, rfl, rfl, rfl⟩
  · have hS5 : Save (fun k => k < w.heap.size ∧ k ≠ b) w w4 := (Save.of g1).trans ((hS1.less (fun k _ hk => by omega)).trans ((hS2.less (fun k _ hk => hk.2)).trans (hS34.less (fun k _ hk => hk.1))))
    exact hS5.less (fun k hk hkb => ⟨hk, hkb⟩)

set_option maxRecDepth 100000 in
set_option maxHeartbeats 4000000 in
theorem back3_calls {base top w b a l c e} (h : Rd base top w b a l c e) (k : Int) (hk9 : -9223372036854775808 ≤ k ∧ k ≤ 9223372036854775807) (ht : top ≤ w.heap.size) (hk : k = 3) :
    Calls Try.prog 36 #[.pointer (some ⟨b, 0, none⟩), .int .i64 k] w (Back base top w b k ⟨l, e⟩) := by
  have g0 : (k == 0) = false := by rw [hk]; rfl
  have g1 : (k == 1) = false := by rw [hk]; rfl
  have g2 : (k == 2) = false := by rw [hk]; rfl
  have g3 : (k == 3) = true := by rw [hk]; rfl
  have g4 : (k == 4) = false := by rw [hk]; rfl
  have g5 : (k == 5) = false := by rw [hk]; rfl
  have HK := Lib.hid hk
  clear hk
  have HA := Lib.hid (fun ρ d ty ps af w => alloc_fl ρ d ty ps (af := af) w)
  have HB := Lib.hid (fun ρ d ty ps af x hx w => build_fl0 ρ d ty ps (af := af) x k hx w)
  have HZ := Lib.hid (fl_one (Fl0 0) rfl)
  have HZk := Lib.hid (fl_one (Fl0 k) rfl)
  obtain ⟨Z, hZ⟩ : ∃ Z, Hid (Z = (Fl0 0).cs.toArray) := ⟨_, rfl⟩
  obtain ⟨Zk, hZk⟩ : ∃ Z, Hid (Z = (Fl0 k).cs.toArray) := ⟨_, rfl⟩
  rw [← hZ.out] at HA HZ
  rw [← hZk.out] at HB HZk
  have hlt := h.lt
  have b0 := Lib.hid (heap_alloc_new w (.cells Z 31))
  have b1 := Lib.hid (heap_alloc_new (w.alloc (.cells Z 31)) (.cells Z 31))
  have SZ : Hid ((w.alloc (.cells Z 31)).heap.size = w.heap.size + 1) := by simp [Hid]
  have g1 : Below w.heap.size w ((w.alloc (.cells Z 31)).alloc (.cells Z 31)) := ((Below.refl _ _).alloc (Nat.le_refl _) _).alloc (by simp) _
  have b0 := Lib.hid ((Below.heap_alloc (w.alloc (.cells Z 31)) (.cells Z 31) w.heap.size (by simp)).trans b0.out)
  have SZ2 : Hid (((w.alloc (.cells Z 31)).alloc (.cells Z 31)).heap.size = w.heap.size + 2) := by simp [Hid]
  go_enter Try.func36, Try.ntmps36
  go_wp2_with (first
    | ((with_reducible refine wpList_value (o := ⟨some 4, .alloc _, _, _, _, _⟩) (by with_unfolding_all rfl) (HA.out _ _ _ _ _ _) ?_))
    | ((with_reducible refine wpList_value (o := ⟨some 5, .alloc _, _, _, _, _⟩) (by with_unfolding_all rfl) (HA.out _ _ _ _ _ _) ?_))
    | ((with_reducible refine wpList_value (o := ⟨some 7, .build _ _, _, _, _, _⟩) (by with_unfolding_all rfl) (HB.out _ _ _ _ _ _ (by with_unfolding_all rfl) _) ?_))
    | ((with_reducible refine wpList_storeB (o := ⟨none, .store 31 (.tmp 5) (.tmp 7), _, _, _, _⟩) flRow (.tmp 5) (.tmp 7) (by with_unfolding_all rfl) (by with_unfolding_all rfl) (by with_unfolding_all rfl) (by with_unfolding_all rfl) (by with_unfolding_all rfl) b1.out HZ.out.1 HZk.out.1 HZk.out.2 ?_); intro w1 hb1 hS1; rw [SZ.out] at hb1 hS1))
  have hs1 := hS1.size
  rw [SZ2.out] at hs1
  have h1 : Rd base top w1 b a l c e := (h.stay g1).save hS1 (by omega) (fun hne g hg => by have := (h.off hne g hg).2.2; omega)
  have hbz : Hid (w1.heap[w.heap.size]? = some (.cells Z 31)) := (hS1.block w.heap.size (by rw [SZ2.out]; omega) (by omega)).trans b0.out
  obtain ⟨q, hq⟩ : ∃ q, Hid (q = St.bytes ⟨l, e⟩) := ⟨_, rfl⟩
  have hc := rbytes_calls h1
  rw [← hq.out] at hc
  refine Calls.mono hc ?_
  rintro r w2 ⟨a2, X, c2, HX, rfl, hm, hR, hS2⟩
  clear hc
  have hs2 := hS2.size
  have hb2 : w2.heap[w.heap.size + 1]? = some (.cells Zk 31) := (hS2.block (w.heap.size + 1) (by omega) (by omega)).trans hb1
  have hbz2 : Hid (w2.heap[w.heap.size]? = some (.cells Z 31)) := (hS2.block w.heap.size (by omega) (by omega)).trans hbz.out
  have HC2 : Hid (CellsAt w2 (w.heap.size + 1) (Fl0 k).cs) := cellsAt_of hb2 hZk.out
  have hXl : X.length ≤ 65536 := by rw [HX.out, hq.out]; exact Nat.le_trans (bytes_le _) h.len
  have hcell : w2.cell? ⟨w.heap.size + 1, 4, none⟩ = some ((Fl0 k).cs[4]'(show _ < 37 by decide)) := HC2.out 4 _ rfl
  have hfree : w2.frozen? ⟨w.heap.size + 1, 4, none⟩ = false := by simp [World.frozen?, hb2]
  have HC3 : Hid (CellsAt (w2.setCell ⟨w.heap.size + 1, 4, none⟩ (.slice a2 X.length c2)) (w.heap.size + 1) (Fl.cs ⟨k, 0, 0, false, a2, X, c2, zeros32⟩)) := cellsAt_set HC2.out 4 (.slice a2 X.length c2) (show _ < 37 by decide)
  have HL : Hid ((Instr.loadAt 31 (.pointer (some ⟨w.heap.size + 1, 0, none⟩))).run Try.prog (w2.setCell ⟨w.heap.size + 1, 4, none⟩ (.slice a2 X.length c2)) = .ok (.agg (Fl.cs ⟨k, 0, 0, false, a2, X, c2, zeros32⟩).toArray) (w2.setCell ⟨w.heap.size + 1, 4, none⟩ (.slice a2 X.length c2))) := load_cells HC3.out rfl
  have hS3 : Save (· ≠ w.heap.size + 1) w2 (w2.setCell ⟨w.heap.size + 1, 4, none⟩ (.slice a2 X.length c2)) := Save.set
  have hbz3 : Hid ((w2.setCell ⟨w.heap.size + 1, 4, none⟩ (.slice a2 X.length c2)).heap[w.heap.size]? = some (.cells Z 31)) := (hS3.block w.heap.size (by omega) (by omega)).trans hbz2.out
  have HF := Lib.hid (fl_one ⟨k, 0, 0, false, a2, X, c2, zeros32⟩ rfl)
  go_wp2_with (first
    | ((with_reducible refine wpList_load_op (o := ⟨some 40, .load 31 (.tmp 5), _, _, _, _⟩) (by with_unfolding_all rfl) (by with_unfolding_all rfl) (by with_unfolding_all rfl) HL.out ?_))
    | ((with_reducible refine wpList_storeB (o := ⟨none, .store 31 (.tmp 4) (.tmp 40), _, _, _, _⟩) flRow (.tmp 4) (.tmp 40) (by with_unfolding_all rfl) (by with_unfolding_all rfl) (by with_unfolding_all rfl) (by with_unfolding_all rfl) (by with_unfolding_all rfl) hbz3.out HZ.out.1 HF.out.1 HF.out.2 ?_); intro w4 hb4 hS4))
  have hs4 := hS4.size
  have hS34 : Save (fun k => k ≠ w.heap.size ∧ k ≠ w.heap.size + 1) w2 w4 := (hS3.less (fun k _ hk => hk.2)).trans (hS4.less (fun k _ hk => hk.1))
  refine bodyPost_ret (resB1 flRow rfl rfl hb4 HF.out.1) rfl ⟨⟨k, 0, 0, false, a2, X, c2, zeros32⟩, q.2, ?_, rfl, ⟨hm.row.save hS34 (fun g hg => by have := hm.new g hg; omega), rfl, show (-9223372036854775808 : Int) ≤ 0 ∧ (0 : Int) ≤ 9223372036854775807 by decide, hk9, by show X.length ≤ _; omega⟩, fun _ g hg => by have := hm.new g hg; omega, hR.save hS34 (by omega) (fun g _ hg => by omega), ?_⟩
  · have hk := HK.out
    subst hk
    rw [hq.out] at HX ⊢
    obtain rfl := HX.out
    exact ⟨rfl, rfl, rfl, rfl, rfl, rfl, rfl⟩
  · have hS5 : Save (fun k => k < w.heap.size ∧ k ≠ b) w w4 := (Save.of g1).trans ((hS1.less (fun k _ hk => by omega)).trans ((hS2.less (fun k _ hk => hk.2)).trans ((hS34.less (fun k _ hk => by omega)))))
    exact hS5.less (fun k hk hkb => ⟨hk, hkb⟩)

set_option maxRecDepth 100000 in
set_option maxHeartbeats 4000000 in
theorem back4_calls {base top w b a l c e} (h : Rd base top w b a l c e) (k : Int) (hk9 : -9223372036854775808 ≤ k ∧ k ≤ 9223372036854775807) (ht : top ≤ w.heap.size) (hk : k = 4) :
    Calls Try.prog 36 #[.pointer (some ⟨b, 0, none⟩), .int .i64 k] w (Back base top w b k ⟨l, e⟩) := by
  have g0 : (k == 0) = false := by rw [hk]; rfl
  have g1 : (k == 1) = false := by rw [hk]; rfl
  have g2 : (k == 2) = false := by rw [hk]; rfl
  have g3 : (k == 3) = false := by rw [hk]; rfl
  have g4 : (k == 4) = true := by rw [hk]; rfl
  have g5 : (k == 5) = false := by rw [hk]; rfl
  have HK := Lib.hid hk
  clear hk
  have HA := Lib.hid (fun ρ d ty ps af w => alloc_fl ρ d ty ps (af := af) w)
  have HB := Lib.hid (fun ρ d ty ps af x hx w => build_fl0 ρ d ty ps (af := af) x k hx w)
  have HZ := Lib.hid (fl_one (Fl0 0) rfl)
  have HZk := Lib.hid (fl_one (Fl0 k) rfl)
  obtain ⟨Z, hZ⟩ : ∃ Z, Hid (Z = (Fl0 0).cs.toArray) := ⟨_, rfl⟩
  obtain ⟨Zk, hZk⟩ : ∃ Z, Hid (Z = (Fl0 k).cs.toArray) := ⟨_, rfl⟩
  rw [← hZ.out] at HA HZ
  rw [← hZk.out] at HB HZk
  have hlt := h.lt
  have b0 := Lib.hid (heap_alloc_new w (.cells Z 31))
  have b1 := Lib.hid (heap_alloc_new (w.alloc (.cells Z 31)) (.cells Z 31))
  have SZ : Hid ((w.alloc (.cells Z 31)).heap.size = w.heap.size + 1) := by simp [Hid]
  have g1 : Below w.heap.size w ((w.alloc (.cells Z 31)).alloc (.cells Z 31)) := ((Below.refl _ _).alloc (Nat.le_refl _) _).alloc (by simp) _
  have b0 := Lib.hid ((Below.heap_alloc (w.alloc (.cells Z 31)) (.cells Z 31) w.heap.size (by simp)).trans b0.out)
  have SZ2 : Hid (((w.alloc (.cells Z 31)).alloc (.cells Z 31)).heap.size = w.heap.size + 2) := by simp [Hid]
  go_enter Try.func36, Try.ntmps36
  go_wp2_with (first
    | ((with_reducible refine wpList_value (o := ⟨some 4, .alloc _, _, _, _, _⟩) (by with_unfolding_all rfl) (HA.out _ _ _ _ _ _) ?_))
    | ((with_reducible refine wpList_value (o := ⟨some 5, .alloc _, _, _, _, _⟩) (by with_unfolding_all rfl) (HA.out _ _ _ _ _ _) ?_))
    | ((with_reducible refine wpList_value (o := ⟨some 7, .build _ _, _, _, _, _⟩) (by with_unfolding_all rfl) (HB.out _ _ _ _ _ _ (by with_unfolding_all rfl) _) ?_))
    | ((with_reducible refine wpList_storeB (o := ⟨none, .store 31 (.tmp 5) (.tmp 7), _, _, _, _⟩) flRow (.tmp 5) (.tmp 7) (by with_unfolding_all rfl) (by with_unfolding_all rfl) (by with_unfolding_all rfl) (by with_unfolding_all rfl) (by with_unfolding_all rfl) b1.out HZ.out.1 HZk.out.1 HZk.out.2 ?_); intro w1 hb1 hS1; rw [SZ.out] at hb1 hS1))
  have hs1 := hS1.size
  rw [SZ2.out] at hs1
  have h1 : Rd base top w1 b a l c e := (h.stay g1).save hS1 (by omega) (fun hne g hg => by have := (h.off hne g hg).2.2; omega)
  have hbz : Hid (w1.heap[w.heap.size]? = some (.cells Z 31)) := (hS1.block w.heap.size (by rw [SZ2.out]; omega) (by omega)).trans b0.out
  obtain ⟨q, hq⟩ : ∃ q, Hid (q = St.bytes ⟨l, e⟩) := ⟨_, rfl⟩
  have hc := rtext_calls h1
  rw [← hq.out] at hc
  refine Calls.mono hc ?_
  rintro r w2 ⟨rfl, hR, hS2⟩
  clear hc
  have hs2 := hS2.size
  have hb2 : w2.heap[w.heap.size + 1]? = some (.cells Zk 31) := (hS2.block (w.heap.size + 1) (by omega) (by omega)).trans hb1
  have hbz2 : Hid (w2.heap[w.heap.size]? = some (.cells Z 31)) := (hS2.block w.heap.size (by omega) (by omega)).trans hbz.out
  have HC2 : Hid (CellsAt w2 (w.heap.size + 1) (Fl0 k).cs) := cellsAt_of hb2 hZk.out
  have hql : q.1.length ≤ 65536 := by rw [hq.out]; exact Nat.le_trans (bytes_le _) h.len
  obtain ⟨c2, w3, hr3, r3, hb3⟩ := string_bytes w2 q.1 (by omega)
  have hs3 := hb3.size
  have hb3x : w3.heap[w.heap.size + 1]? = some (.cells Zk 31) := (hb3.block _ (by omega)).trans hb2
  have HC2 : Hid (CellsAt w3 (w.heap.size + 1) (Fl0 k).cs) := cellsAt_of hb3x hZk.out
  have hbz2 : Hid (w3.heap[w.heap.size]? = some (.cells Z 31)) := (hb3.block _ (by omega)).trans hbz2.out
  have hcell : w3.cell? ⟨w.heap.size + 1, 4, none⟩ = some ((Fl0 k).cs[4]'(show _ < 37 by decide)) := HC2.out 4 _ rfl
  have hfree : w3.frozen? ⟨w.heap.size + 1, 4, none⟩ = false := by simp [World.frozen?, hb3x]
  have HC3 : Hid (CellsAt (w3.setCell ⟨w.heap.size + 1, 4, none⟩ (.slice (some ⟨w2.heap.size, 0, none⟩) q.1.length c2)) (w.heap.size + 1) (Fl.cs ⟨k, 0, 0, false, some ⟨w2.heap.size, 0, none⟩, q.1, c2, zeros32⟩)) := cellsAt_set HC2.out 4 (.slice (some ⟨w2.heap.size, 0, none⟩) q.1.length c2) (show _ < 37 by decide)
  have HL : Hid ((Instr.loadAt 31 (.pointer (some ⟨w.heap.size + 1, 0, none⟩))).run Try.prog (w3.setCell ⟨w.heap.size + 1, 4, none⟩ (.slice (some ⟨w2.heap.size, 0, none⟩) q.1.length c2)) = .ok (.agg (Fl.cs ⟨k, 0, 0, false, some ⟨w2.heap.size, 0, none⟩, q.1, c2, zeros32⟩).toArray) (w3.setCell ⟨w.heap.size + 1, 4, none⟩ (.slice (some ⟨w2.heap.size, 0, none⟩) q.1.length c2))) := load_cells HC3.out rfl
  have hS3 : Save (· ≠ w.heap.size + 1) w3 (w3.setCell ⟨w.heap.size + 1, 4, none⟩ (.slice (some ⟨w2.heap.size, 0, none⟩) q.1.length c2)) := Save.set
  have hbz3 : Hid ((w3.setCell ⟨w.heap.size + 1, 4, none⟩ (.slice (some ⟨w2.heap.size, 0, none⟩) q.1.length c2)).heap[w.heap.size]? = some (.cells Z 31)) := (hS3.block w.heap.size (by omega) (by omega)).trans hbz2.out
  have HF := Lib.hid (fl_one ⟨k, 0, 0, false, some ⟨w2.heap.size, 0, none⟩, q.1, c2, zeros32⟩ rfl)
  go_wp2_with (first
    | ((with_reducible refine wpList_load_op (o := ⟨some 40, .load 31 (.tmp 5), _, _, _, _⟩) (by with_unfolding_all rfl) (by with_unfolding_all rfl) (by with_unfolding_all rfl) HL.out ?_))
    | ((with_reducible refine wpList_storeB (o := ⟨none, .store 31 (.tmp 4) (.tmp 40), _, _, _, _⟩) flRow (.tmp 4) (.tmp 40) (by with_unfolding_all rfl) (by with_unfolding_all rfl) (by with_unfolding_all rfl) (by with_unfolding_all rfl) (by with_unfolding_all rfl) hbz3.out HZ.out.1 HF.out.1 HF.out.2 ?_); intro w4 hb4 hS4))
  have hs4 := hS4.size
  have hS34 : Save (fun k => k ≠ w.heap.size ∧ k ≠ w.heap.size + 1) w3 w4 := (hS3.less (fun k _ hk => hk.2)).trans (hS4.less (fun k _ hk => hk.1))
  refine bodyPost_ret (resB1 flRow rfl rfl hb4 HF.out.1) rfl ⟨⟨k, 0, 0, false, some ⟨w2.heap.size, 0, none⟩, q.1, c2, zeros32⟩, q.2, ?_, rfl, ⟨r3.save hS34 (fun g hg => by simp [Go.Cit.blk] at hg; omega), rfl, show (-9223372036854775808 : Int) ≤ 0 ∧ (0 : Int) ≤ 9223372036854775807 by decide, hk9, by show q.1.length ≤ _; omega⟩, fun _ g hg => by simp [Go.Cit.blk] at hg; omega, (hR.stay hb3).save hS34 (by omega) (fun g _ hg => by omega), ?_⟩
  · have hk := HK.out
    subst hk
    rw [hq.out]
    exact ⟨rfl, rfl, rfl, rfl, rfl, rfl, rfl⟩
  · have hS5 : Save (fun k => k < w.heap.size ∧ k ≠ b) w w4 := (Save.of g1).trans ((hS1.less (fun k _ hk => by omega)).trans ((hS2.less (fun k _ hk => hk.2)).trans ((Save.of hb3).trans (hS34.less (fun k _ hk => by omega)))))
    exact hS5.less (fun k hk hkb => ⟨hk, hkb⟩)

set_option maxRecDepth 100000 in
set_option maxHeartbeats 4000000 in
theorem back5_calls {base top w b a l c e} (h : Rd base top w b a l c e) (k : Int) (hk9 : -9223372036854775808 ≤ k ∧ k ≤ 9223372036854775807) (ht : top ≤ w.heap.size) (hk : k = 5) :
    Calls Try.prog 36 #[.pointer (some ⟨b, 0, none⟩), .int .i64 k] w (Back base top w b k ⟨l, e⟩) := by
  have g0 : (k == 0) = false := by rw [hk]; rfl
  have g1 : (k == 1) = false := by rw [hk]; rfl
  have g2 : (k == 2) = false := by rw [hk]; rfl
  have g3 : (k == 3) = false := by rw [hk]; rfl
  have g4 : (k == 4) = false := by rw [hk]; rfl
  have g5 : (k == 5) = true := by rw [hk]; rfl
  have HK := Lib.hid hk
  clear hk
  have HA := Lib.hid (fun ρ d ty ps af w => alloc_fl ρ d ty ps (af := af) w)
  have HB := Lib.hid (fun ρ d ty ps af x hx w => build_fl0 ρ d ty ps (af := af) x k hx w)
  have HZ := Lib.hid (fl_one (Fl0 0) rfl)
  have HZk := Lib.hid (fl_one (Fl0 k) rfl)
  obtain ⟨Z, hZ⟩ : ∃ Z, Hid (Z = (Fl0 0).cs.toArray) := ⟨_, rfl⟩
  obtain ⟨Zk, hZk⟩ : ∃ Z, Hid (Z = (Fl0 k).cs.toArray) := ⟨_, rfl⟩
  rw [← hZ.out] at HA HZ
  rw [← hZk.out] at HB HZk
  have hlt := h.lt
  have b0 := Lib.hid (heap_alloc_new w (.cells Z 31))
  have b1 := Lib.hid (heap_alloc_new (w.alloc (.cells Z 31)) (.cells Z 31))
  have SZ : Hid ((w.alloc (.cells Z 31)).heap.size = w.heap.size + 1) := by simp [Hid]
  have g1 : Below w.heap.size w ((w.alloc (.cells Z 31)).alloc (.cells Z 31)) := ((Below.refl _ _).alloc (Nat.le_refl _) _).alloc (by simp) _
  have b0 := Lib.hid ((Below.heap_alloc (w.alloc (.cells Z 31)) (.cells Z 31) w.heap.size (by simp)).trans b0.out)
  have SZ2 : Hid (((w.alloc (.cells Z 31)).alloc (.cells Z 31)).heap.size = w.heap.size + 2) := by simp [Hid]
  go_enter Try.func36, Try.ntmps36
  go_wp2_with (first
    | ((with_reducible refine wpList_value (o := ⟨some 4, .alloc _, _, _, _, _⟩) (by with_unfolding_all rfl) (HA.out _ _ _ _ _ _) ?_))
    | ((with_reducible refine wpList_value (o := ⟨some 5, .alloc _, _, _, _, _⟩) (by with_unfolding_all rfl) (HA.out _ _ _ _ _ _) ?_))
    | ((with_reducible refine wpList_value (o := ⟨some 7, .build _ _, _, _, _, _⟩) (by with_unfolding_all rfl) (HB.out _ _ _ _ _ _ (by with_unfolding_all rfl) _) ?_))
    | ((with_reducible refine wpList_storeB (o := ⟨none, .store 31 (.tmp 5) (.tmp 7), _, _, _, _⟩) flRow (.tmp 5) (.tmp 7) (by with_unfolding_all rfl) (by with_unfolding_all rfl) (by with_unfolding_all rfl) (by with_unfolding_all rfl) (by with_unfolding_all rfl) b1.out HZ.out.1 HZk.out.1 HZk.out.2 ?_); intro w1 hb1 hS1; rw [SZ.out] at hb1 hS1))
  have hs1 := hS1.size
  rw [SZ2.out] at hs1
  have h1 : Rd base top w1 b a l c e := (h.stay g1).save hS1 (by omega) (fun hne g hg => by have := (h.off hne g hg).2.2; omega)
  have hbz : Hid (w1.heap[w.heap.size]? = some (.cells Z 31)) := (hS1.block w.heap.size (by rw [SZ2.out]; omega) (by omega)).trans b0.out
  obtain ⟨q, hq⟩ : ∃ q, Hid (q = St.read ⟨l, e⟩ 32 fTag zeros32) := ⟨_, rfl⟩
  have hc := rtag_calls h1 (by omega)
  rw [← hq.out] at hc
  refine Calls.mono hc ?_
  rintro r w2 ⟨rfl, hR, hS2⟩
  clear hc
  have hs2 := hS2.size
  have hb2 : w2.heap[w.heap.size + 1]? = some (.cells Zk 31) := (hS2.block (w.heap.size + 1) (by omega) (by omega)).trans hb1
  have hbz2 : Hid (w2.heap[w.heap.size]? = some (.cells Z 31)) := (hS2.block w.heap.size (by omega) (by omega)).trans hbz.out
  have HC2 : Hid (CellsAt w2 (w.heap.size + 1) (Fl0 k).cs) := cellsAt_of hb2 hZk.out
  have hq32 : q.1.length = 32 := by rw [hq.out]; exact read_tag32 _
  have HT := Lib.hid (tag_cells q.1 hq32)
  obtain ⟨TT, hTT⟩ : ∃ T, Hid (T = (q.1.map vb).toArray) := ⟨_, rfl⟩
  rw [← hTT.out] at HT ⊢
  have HTH : Hid (w2.there (w.heap.size + 1) 5 TT.size) := by
    intro j hj
    rw [HT.out.1] at hj
    refine ⟨?_, by simp [World.frozen?, hb2]⟩
    rw [HC2.out (5 + j) ((Fl0 k).cs[5 + j]'(show 5 + j < 37 by omega)) (List.getElem?_eq_getElem _)]
    rfl
  have HC3 : Hid (CellsAt (w2.setCells (w.heap.size + 1) 5 TT.toList) (w.heap.size + 1) (Fl.cs ⟨k, 0, 0, false, none, [], 0, q.1⟩)) := by
    have := cellsAt_setCells (l1 := [.int .i64 k, vb 0, .int .i64 0, .bool false, .slice none 0 0]) (l2 := zeros32.map vb) (vs := TT.toList) HC2.out (by rw [hTT.out]; simp [hq32, zeros32])
    rw [hTT.out] at this ⊢
    exact this
  have HL : Hid ((Instr.loadAt 31 (.pointer (some ⟨w.heap.size + 1, 0, none⟩))).run Try.prog (w2.setCells (w.heap.size + 1) 5 TT.toList) = .ok (.agg (Fl.cs ⟨k, 0, 0, false, none, [], 0, q.1⟩).toArray) (w2.setCells (w.heap.size + 1) 5 TT.toList)) := load_cells HC3.out (by simp [Fl.cs, hq32])
  have hS3 : Save (· ≠ w.heap.size + 1) w2 (w2.setCells (w.heap.size + 1) 5 TT.toList) := save_setCells _ _ _
  have hbz3 : Hid ((w2.setCells (w.heap.size + 1) 5 TT.toList).heap[w.heap.size]? = some (.cells Z 31)) := (hS3.block w.heap.size (by omega) (by omega)).trans hbz2.out
  have HF := Lib.hid (fl_one ⟨k, 0, 0, false, none, [], 0, q.1⟩ hq32)
  go_wp2_with (first
    | ((with_reducible refine wpList_store_mid (op := ⟨none, .store 29 (.tmp 39) (.tmp 38), _, _, _, _⟩) (by with_unfolding_all rfl) 29 (.tmp 39) (.tmp 38) (by with_unfolding_all rfl) (w.heap.size + 1) 5 TT (by with_unfolding_all rfl) (by with_unfolding_all rfl) HTH.out (by rw [HT.out.1]; exact tagRow.info) HT.out.2 ?_))
    | ((with_reducible refine wpList_load_op (o := ⟨some 40, .load 31 (.tmp 5), _, _, _, _⟩) (by with_unfolding_all rfl) (by with_unfolding_all rfl) (by with_unfolding_all rfl) HL.out ?_))
    | ((with_reducible refine wpList_storeB (o := ⟨none, .store 31 (.tmp 4) (.tmp 40), _, _, _, _⟩) flRow (.tmp 4) (.tmp 40) (by with_unfolding_all rfl) (by with_unfolding_all rfl) (by with_unfolding_all rfl) (by with_unfolding_all rfl) (by with_unfolding_all rfl) hbz3.out HZ.out.1 HF.out.1 HF.out.2 ?_); intro w4 hb4 hS4))
  have hs4 := hS4.size
  have hS34 : Save (fun k => k ≠ w.heap.size ∧ k ≠ w.heap.size + 1) w2 w4 := (hS3.less (fun k _ hk => hk.2)).trans (hS4.less (fun k _ hk => hk.1))
  refine bodyPost_ret (resB1 flRow rfl rfl hb4 HF.out.1) rfl ⟨⟨k, 0, 0, false, none, [], 0, q.1⟩, q.2, ?_, rfl, ⟨Row.nil_ _, hq32, show (-9223372036854775808 : Int) ≤ 0 ∧ (0 : Int) ≤ 9223372036854775807 by decide, hk9, Nat.zero_le _⟩, fun h => absurd rfl h, hR.save hS34 (by omega) (fun g _ hg => by omega), ?_⟩
  · have hk := HK.out
    subst hk
    rw [hq.out]
    exact ⟨rfl, rfl, rfl, rfl, rfl, rfl, rfl⟩
  · have hS5 : Save (fun k => k < w.heap.size ∧ k ≠ b) w w4 := (Save.of g1).trans ((hS1.less (fun k _ hk => by omega)).trans ((hS2.less (fun k _ hk => hk.2)).trans ((hS34.less (fun k _ hk => by omega)))))
    exact hS5.less (fun k hk hkb => ⟨hk, hkb⟩)

set_option maxRecDepth 100000 in
set_option maxHeartbeats 4000000 in
theorem back6_calls {base top w b a l c e} (h : Rd base top w b a l c e) (k : Int) (hk9 : -9223372036854775808 ≤ k ∧ k ≤ 9223372036854775807) (ht : top ≤ w.heap.size) (hk : k ≠ 0 ∧ k ≠ 1 ∧ k ≠ 2 ∧ k ≠ 3 ∧ k ≠ 4 ∧ k ≠ 5) :
    Calls Try.prog 36 #[.pointer (some ⟨b, 0, none⟩), .int .i64 k] w (Back base top w b k ⟨l, e⟩) := by
  have g0 : (k == 0) = false := by simpa using hk.1
  have g1 : (k == 1) = false := by simpa using hk.2.1
  have g2 : (k == 2) = false := by simpa using hk.2.2.1
  have g3 : (k == 3) = false := by simpa using hk.2.2.2.1
  have g4 : (k == 4) = false := by simpa using hk.2.2.2.2.1
  have g5 : (k == 5) = false := by simpa using hk.2.2.2.2.2
  have HK := Lib.hid hk
  clear hk
  have HA := Lib.hid (fun ρ d ty ps af w => alloc_fl ρ d ty ps (af := af) w)
  have HB := Lib.hid (fun ρ d ty ps af x hx w => build_fl0 ρ d ty ps (af := af) x k hx w)
  have HZ := Lib.hid (fl_one (Fl0 0) rfl)
  have HZk := Lib.hid (fl_one (Fl0 k) rfl)
  obtain ⟨Z, hZ⟩ : ∃ Z, Hid (Z = (Fl0 0).cs.toArray) := ⟨_, rfl⟩
  obtain ⟨Zk, hZk⟩ : ∃ Z, Hid (Z = (Fl0 k).cs.toArray) := ⟨_, rfl⟩
  rw [← hZ.out] at HA HZ
  rw [← hZk.out] at HB HZk
  have hlt := h.lt
  have b0 := Lib.hid (heap_alloc_new w (.cells Z 31))
  have b1 := Lib.hid (heap_alloc_new (w.alloc (.cells Z 31)) (.cells Z 31))
  have SZ : Hid ((w.alloc (.cells Z 31)).heap.size = w.heap.size + 1) := by simp [Hid]
  have g1 : Below w.heap.size w ((w.alloc (.cells Z 31)).alloc (.cells Z 31)) := ((Below.refl _ _).alloc (Nat.le_refl _) _).alloc (by simp) _
  have b0 := Lib.hid ((Below.heap_alloc (w.alloc (.cells Z 31)) (.cells Z 31) w.heap.size (by simp)).trans b0.out)
  have SZ2 : Hid (((w.alloc (.cells Z 31)).alloc (.cells Z 31)).heap.size = w.heap.size + 2) := by simp [Hid]
  go_enter Try.func36, Try.ntmps36
  go_wp2_with (first
    | ((with_reducible refine wpList_value (o := ⟨some 4, .alloc _, _, _, _, _⟩) (by with_unfolding_all rfl) (HA.out _ _ _ _ _ _) ?_))
    | ((with_reducible refine wpList_value (o := ⟨some 5, .alloc _, _, _, _, _⟩) (by with_unfolding_all rfl) (HA.out _ _ _ _ _ _) ?_))
    | ((with_reducible refine wpList_value (o := ⟨some 7, .build _ _, _, _, _, _⟩) (by with_unfolding_all rfl) (HB.out _ _ _ _ _ _ (by with_unfolding_all rfl) _) ?_))
    | ((with_reducible refine wpList_storeB (o := ⟨none, .store 31 (.tmp 5) (.tmp 7), _, _, _, _⟩) flRow (.tmp 5) (.tmp 7) (by with_unfolding_all rfl) (by with_unfolding_all rfl) (by with_unfolding_all rfl) (by with_unfolding_all rfl) (by with_unfolding_all rfl) b1.out HZ.out.1 HZk.out.1 HZk.out.2 ?_); intro w1 hb1 hS1; rw [SZ.out] at hb1 hS1; have HL : Hid ((Instr.loadAt 31 (.pointer (some ⟨w.heap.size + 1, 0, none⟩))).run Try.prog w1 = .ok (.agg (Fl0 k).cs.toArray) w1) := load_cells (cellsAt_of hb1 hZk.out) rfl; have hbz : Hid (w1.heap[w.heap.size]? = some (.cells Z 31)) := (hS1.block w.heap.size (by rw [SZ2.out]; omega) (by omega)).trans b0.out)
    | ((with_reducible refine wpList_load_op (o := ⟨some 40, .load 31 (.tmp 5), _, _, _, _⟩) (by with_unfolding_all rfl) (by with_unfolding_all rfl) (by with_unfolding_all rfl) HL.out ?_))
    | ((with_reducible refine wpList_storeB (o := ⟨none, .store 31 (.tmp 4) (.tmp 40), _, _, _, _⟩) flRow (.tmp 4) (.tmp 40) (by with_unfolding_all rfl) (by with_unfolding_all rfl) (by with_unfolding_all rfl) (by with_unfolding_all rfl) (by with_unfolding_all rfl) hbz.out HZ.out.1 (fl_one (Fl0 k) rfl).1 (fl_one (Fl0 k) rfl).2 ?_); intro w4 hb4 hS4))
  have hs1 := hS1.size
  rw [SZ2.out] at hs1
  have h1 : Rd base top w1 b a l c e := (h.stay g1).save hS1 (by omega) (fun hne g hg => by have := (h.off hne g hg).2.2; omega)
  have hbz : Hid (w1.heap[w.heap.size]? = some (.cells Z 31)) := (hS1.block w.heap.size (by rw [SZ2.out]; omega) (by omega)).trans b0.out
  refine bodyPost_ret (resB1 flRow rfl rfl hb4 (fl_one (Fl0 k) rfl).1) rfl ⟨Fl0 k, ⟨l, e⟩, ?_, rfl, ⟨Row.nil_ _, rfl, show (-9223372036854775808 : Int) ≤ 0 ∧ (0 : Int) ≤ 9223372036854775807 by decide, hk9, Nat.zero_le _⟩, fun h => absurd rfl h, ?_, ?_⟩
  · obtain ⟨n0, n1, n2, n3, n4, n5⟩ := HK.out
    have n34 : ¬ (k = 3 ∨ k = 4) := by omega
    exact ⟨rfl, by rw [if_neg n0]; rfl, by rw [if_neg n1]; rfl, by rw [if_neg n2]; rfl, by rw [if_neg n34]; rfl, by rw [if_neg n5]; rfl, by rw [if_neg n0, if_neg n1, if_neg n2, if_neg n34, if_neg n5]⟩
  · exact ⟨a, c, h1.save hS4 (by omega) (fun hne g hg => by have := (h.off hne g hg).2.2; omega)⟩
  · have hS5 : Save (fun k => k < w.heap.size) w w4 := (Save.of g1).trans ((hS1.less (fun k _ hk => by omega)).trans (hS4.less (fun k _ hk => by omega)))
    exact hS5.less (fun k hk _ => hk)

/-- A field of a kind, taken of a reader. -/
theorem back_calls {base top w b a l c e} (h : Rd base top w b a l c e) (k : Int) (hk9 : -9223372036854775808 ≤ k ∧ k ≤ 9223372036854775807) (ht : top ≤ w.heap.size) :
    Calls Try.prog 36 #[.pointer (some ⟨b, 0, none⟩), .int .i64 k] w (Back base top w b k ⟨l, e⟩) := by
  by_cases h0 : k = 0
  · exact back0_calls h k hk9 ht h0
  by_cases h1 : k = 1
  · exact back1_calls h k hk9 ht h1
  by_cases h2 : k = 2
  · exact back2_calls h k hk9 ht h2
  by_cases h3 : k = 3
  · exact back3_calls h k hk9 ht h3
  by_cases h4 : k = 4
  · exact back4_calls h k hk9 ht h4
  by_cases h5 : k = 5
  · exact back5_calls h k hk9 ht h5
  exact back6_calls h k hk9 ht ⟨h0, h1, h2, h3, h4, h5⟩
end Go.Proofs.Ytglmijcfdcajkaa
