/- WireNobody: of a writer, a reader that nobody made nothing comes. The law's walk. -/
import Derived.Test.YtglmijcfdcajkaaWireDeaf
import Derived.Test.YtglmijcfdcajkaaWireFlds
import Derived.Test.YtglmijcfdcajkaaOne
import Derived.Great.BuildSlice
namespace Go.Proofs.Ytglmijcfdcajkaa
open Go Go.RowKit Go.Cit

theorem neq_zero {x y : Operand} (w : World) : (do eqGuard .neq 29 x y (.agg (zeros32.map vb).toArray) (.agg (zeros32.map vb).toArray); binOp .neq 29 (.agg (zeros32.map vb).toArray) (.agg (zeros32.map vb).toArray) : Sem Value).run Try.prog w = .ok (.bool false) w := by
  kernel_rfl

section
variable {ops : Array Oper} {rest : List Oper} {o : Oper} {act : Act} {w w' : World} {Q : Exit → Act → World → Prop}
theorem wpList_value_g {v : Value} (hgd : Region.wanted o (yielded ops act.tmps) = true) (hr : (execOp act.eval o).run Try.prog w = .ok (.value v) w')
    (h : wpList Try.prog ops Q rest (act.put o.dst v) w') : wpList Try.prog ops Q (o :: rest) act w := by
  unfold wpList
  rw [if_pos hgd]
  left
  unfold Oper.wp
  rw [hr]
  exact h
end
theorem build_tag (ρ : Operand → Value) (d : Option Tmp) (ty : TypeId) (ps : String) {af gd} (w : World) :
    (execOp ρ { dst := d, op := Op.build 29 #[], type := ty, pos := ps, after := af, guard := gd }).run Try.prog w = .ok (.value (.agg (zeros32.map vb).toArray)) w := by
  kernel_rfl
theorem neq_tag_run (ρ : Operand → Value) (d : Option Tmp) (ty : TypeId) (ps : String) {af gd} (x y : Operand) (w : World) (hx : ρ x = .agg (zeros32.map vb).toArray) (hy : ρ y = .agg (zeros32.map vb).toArray) :
    (execOp ρ { dst := d, op := Op.binOp .neq 29 x y 29, type := ty, pos := ps, after := af, guard := gd }).run Try.prog w = .ok (.value (.bool false)) w := by
  have := neq_zero (x := x) (y := y) w
  unfold execOp; dsimp only; rw [hx, hy]
  generalize (do eqGuard .neq 29 x y (.agg (zeros32.map vb).toArray) (.agg (zeros32.map vb).toArray); binOp .neq 29 (.agg (zeros32.map vb).toArray) (.agg (zeros32.map vb).toArray) : Sem Value) = s at this
  rw [Sem.run_bind, this]; rfl
theorem build_fl (w : World) (C : Array Value) (h : C.size = 37) : (Instr.buildSlice 22 1 #[(0, .agg C)]).run Try.prog w = .ok (.slice (some ⟨w.heap.size, 0, none⟩) 1 1) (w.alloc (.cells C 31)) := by
  have h1 : (Try.prog.info? 31).map (·.size) = some 37 := by kernel_rfl
  have h2 : ((Try.prog.info? 31).bind (·.zero)).isSome = true := by kernel_rfl
  cases hie : Try.prog.info? 31 with
  | none => rw [hie] at h1; cases h1
  | some ie =>
    simp only [hie, Option.map_some, Option.some.injEq, Option.bind_some] at h1 h2
    obtain ⟨z, hz⟩ := Option.isSome_iff_exists.1 h2
    refine run_buildSlice w _ _ 1 _ C ie z Try.underlying22 hie hz (by rw [h1]; decide) (by rw [h1]; decide) ?_
    rw [h1]
    have := Great.fill_whole (s := 37) (by omega) [Value.agg C] ((Array.range (1 * 37)).map (z.cells[· % z.cells.size]!)) (by intro v hv; obtain rfl : v = .agg C := (by simpa using hv); exact h) (by simp)
    simpa [Value.cells] using this
theorem build_fl_run (ρ : Operand → Value) (d : Option Tmp) (ty : TypeId) (ps : String) {af gd} (x : Operand) (w : World) (C : Array Value) (h : C.size = 37) (hx : ρ x = .agg C) :
    (execOp ρ { dst := d, op := Op.buildSlice 22 1 #[(0, x)], type := ty, pos := ps, after := af, guard := gd }).run Try.prog w = .ok (.value (.slice (some ⟨w.heap.size, 0, none⟩) 1 1)) (w.alloc (.cells C 31)) := by
  unfold execOp; dsimp only
  rw [show (#[((0 : Nat), x)].map fun (i, x) => (i, ρ x)) = #[(0, Value.agg C)] by simp [hx], Sem.run_bind, build_fl w C h]
  rfl

theorem load_fl {w : World} {b : Nat} {f : Fl} {T : TypeId} {fr : Nat × Nat} (h32 : f.t.length = 32) (h : w.heap[b]? = some (.cells f.cs.toArray T fr)) :
    (Instr.loadAt 31 (.pointer (some ⟨b, 0, none⟩))).run Try.prog w = .ok (.agg f.cs.toArray) w := by
  refine run_loadAt_mid w b 0 31 f.cs _ (fun j v hv => ?_) Try.underlying31 rfl ?_
  · rw [Nat.zero_add, World.cell?, h]
    simpa using hv
  · rw [fl_len _ h32]; kernel_rfl

theorem flds_one {w : World} {b : Nat} {f : Fl} {T : TypeId} {fr : Nat × Nat} (hf : f.At w) (h : w.heap[b]? = some (.cells f.cs.toArray T fr)) : Flds w (some ⟨b, 0, none⟩) [f] 1 :=
  ⟨Nat.le_refl _, by decide, fun _ => ⟨_, _, rfl⟩, fun i hi j hj => by
    obtain rfl : i = 0 := by simpa using hi
    show World.cell? w ⟨b, _, none⟩ = _
    rw [World.cell?]
    simp [h], fun i hi => by
    obtain rfl : i = 0 := by simpa using hi
    exact hf⟩

theorem four_new (w : World) (a b c d : Obj) {n : Nat} (h : w.heap.size = n) : ((((w.alloc a).alloc b).alloc c).alloc d).heap[n]? = some a ∧ ((((w.alloc a).alloc b).alloc c).alloc d).heap[n + 1]? = some b ∧ ((((w.alloc a).alloc b).alloc c).alloc d).heap[n + 1 + 1]? = some c ∧ ((((w.alloc a).alloc b).alloc c).alloc d).heap[n + 1 + 1 + 1]? = some d := by
  have s1 : (w.alloc a).heap.size = n + 1 := by simp [h]
  have s2 : ((w.alloc a).alloc b).heap.size = n + 1 + 1 := by simp [h]
  have s3 : (((w.alloc a).alloc b).alloc c).heap.size = n + 1 + 1 + 1 := by simp [h]
  have h1 := heap_alloc_new w a
  have h2 := heap_alloc_new (w.alloc a) b
  have h3 := heap_alloc_new ((w.alloc a).alloc b) c
  have h4 := heap_alloc_new (((w.alloc a).alloc b).alloc c) d
  rw [h] at h1
  rw [s1] at h2
  rw [s2] at h3
  rw [s3] at h4
  exact ⟨(Below.heap_alloc _ _ _ (by omega)).trans ((Below.heap_alloc _ _ _ (by omega)).trans ((Below.heap_alloc _ _ _ (by omega)).trans h1)), (Below.heap_alloc _ _ _ (by omega)).trans ((Below.heap_alloc _ _ _ (by omega)).trans h2), (Below.heap_alloc _ _ _ (by omega)).trans h3, h4⟩

def nobT (s3 k : Nat) (p : Option Addr) (C : Array Value) : Nat → Value → World → Prop
  | 26, v, _ => v = .slice (some ⟨s3, 0, none⟩) 2 2
  | 27, v, _ => v = .int .i64 (k : Int)
  | 28, v, _ => v = .pointer (some ⟨s3, k, none⟩)
  | 29, v, _ => v = .pointer p
  | 30, v, _ => v = .agg C
  | _, v, _ => v = .pointer p
set_option maxRecDepth 100000 in
set_option maxHeartbeats 4000000 in
theorem wireNobody_law (w : World) (f : Fl) (h : f.At w) :
    Calls Try.prog 6 #[.agg f.cs.toArray] w fun e w' => e = .returned (.bool true) ∧ Below w.heap.size w w' := by
  have hb0 : Below w.heap.size w (w.alloc (.cells f.cs.toArray 31)) := (Below.refl _ _).alloc (Nat.le_refl _) _
  have hx0 := heap_alloc_new w (.cells f.cs.toArray 31)
  have HL0 := Lib.hid (load_fl h.t32 hx0)
  obtain ⟨C, hC⟩ : ∃ C, Hid (C = f.cs.toArray) := ⟨_, rfl⟩
  have hCs : Hid (C.size = 37) := by rw [Hid, hC.out]; simpa using fl_len _ h.t32
  rw [← hC.out] at HL0 hb0 ⊢
  go_enter Try.func6, Try.ntmps6
  go_wp2_with (first | ((with_reducible refine wpList_value (o := ⟨some 12, .buildSlice _ _ _, _, _, _, _⟩) (by with_unfolding_all rfl) (build_fl_run _ _ _ _ _ _ C hCs.out (by with_unfolding_all rfl)) ?_)) | (with_reducible refine wpList_load_op (o := ⟨some 11, .load 31 (.tmp 1), _, _, _, _⟩) (by with_unfolding_all rfl) (by with_unfolding_all rfl) (by with_unfolding_all rfl) HL0.out ?_))
  have hx1 := heap_alloc_new (w.alloc (.cells C 31)) (.cells C 31)
  have b1 : Below w.heap.size w ((w.alloc (.cells C 31)).alloc (.cells C 31)) := hb0.alloc (by simp) _
  have hsz1 : ((w.alloc (.cells C 31)).alloc (.cells C 31)).heap.size = w.heap.size + 2 := by simp
  have hx01 : ((w.alloc (.cells C 31)).alloc (.cells C 31)).heap[w.heap.size]? = some (.cells C 31 (0, 0)) := (Below.heap_alloc _ _ _ (by simp)).trans (heap_alloc_new w _)
  have hx2 : ((w.alloc (.cells C 31)).alloc (.cells C 31)).heap[w.heap.size + 1]? = some (.cells f.cs.toArray 31 (0, 0)) := by rw [← hC.out]; simpa using hx1
  have q1 := flds_one (h.stay b1) hx2
  clear hx1 hx2 hx0
  generalize (w.alloc (.cells C 31)).alloc (.cells C 31) = w1 at *
  refine (great_calls _ _ _ _ q1).mono ?_
  rintro e w2 ⟨rfl, hw2⟩
  subst hw2
  by_cases hg : 5000 < totN [f]
  · have gg : decide (5000 < totN [f]) = true := decide_eq_true hg
    clear hg
    go_wp2_with fail
    go_ret
    exact ⟨rfl, b1⟩
  have gg : decide (5000 < totN [f]) = false := decide_eq_false hg
  have HF : Hid (f.l.length ≤ 5000) := by have := totN_one [f] 0 (by simp); rw [Hid]; simp only [List.getElem_cons_zero] at this; omega
  clear hg
  go_wp2_with fail
  obtain ⟨z, hz⟩ : ∃ z, Hid (z = w.heap.size) := ⟨_, rfl⟩
  rw [← hz.out] at HL0 hsz1 hx01 ⊢
  obtain ⟨W, hW⟩ : ∃ W, W = ((((w2.alloc (.cells #[.slice none 0 0, .bool false, .int .i64 0] 51)).alloc (.cells #[.pointer none, .pointer (some ⟨z + 2, 0, none⟩)] 24)).alloc (.cells #[.slice none 0 0, .bool false, .int .i64 0] 54)).alloc (.cells #[.pointer none, .pointer (some ⟨z + 2 + 1 + 1, 0, none⟩)] 37)) := ⟨_, rfl⟩
  have kk := four_new w2 (.cells #[.slice none 0 0, .bool false, .int .i64 0] 51) (.cells #[.pointer none, .pointer (some ⟨z + 2, 0, none⟩)] 24) (.cells #[.slice none 0 0, .bool false, .int .i64 0] 54) (.cells #[.pointer none, .pointer (some ⟨z + 2 + 1 + 1, 0, none⟩)] 37) hsz1
  rw [← hW] at kk
  obtain ⟨k2, k3, k4, k5⟩ := kk
  have bW : Below w.heap.size w W := by have hz2 := hz.out; rw [hW]; exact (((b1.alloc (by omega) _).alloc (by simp; omega) _).alloc (by simp; omega) _).alloc (by simp; omega) _
  have k0 : W.heap[z]? = some (.cells C 31 (0, 0)) := by have hz2 := hz.out; rw [hW]; exact (Below.heap_alloc _ _ _ (by simp; omega)).trans ((Below.heap_alloc _ _ _ (by simp; omega)).trans ((Below.heap_alloc _ _ _ (by simp; omega)).trans ((Below.heap_alloc _ _ _ (by omega)).trans hx01)))
  rw [← hW]
  generalize z + 2 + 1 + 1 + 1 = s5 at *
  generalize z + 2 + 1 + 1 = s4 at *
  generalize z + 2 + 1 = s3 at *
  generalize z + 2 = s2 at *
  clear hW hx01 q1 gg hsz1
  have HK : ∀ k : Nat, k < 2 → ∃ p q, (∀ wx, Below W.heap.size W wx → wx.cell? ⟨s3, k, none⟩ = some (.pointer p) ∧ NoW wx p ∧ wx.cell? ⟨s5, k, none⟩ = some (.pointer q) ∧ NoR wx q) := by
    intro k hk
    obtain rfl | rfl : k = 0 ∨ k = 1 := by omega
    · refine ⟨none, none, fun wx hb => ⟨?_, .inl rfl, ?_, .inl rfl⟩⟩
      · rw [World.cell?_of_block (w := W) (hb.block s3 (Array.getElem?_eq_some_iff.1 k3).1), World.cell?, k3]; rfl
      · rw [World.cell?_of_block (w := W) (hb.block s5 (Array.getElem?_eq_some_iff.1 k5).1), World.cell?, k5]; rfl
    · refine ⟨some ⟨s2, 0, none⟩, some ⟨s4, 0, none⟩, fun wx hb => ⟨?_, .inr ⟨s2, rfl, ?_⟩, ?_, .inr ⟨s4, rfl, ?_⟩⟩⟩
      · rw [World.cell?_of_block (w := W) (hb.block s3 (Array.getElem?_eq_some_iff.1 k3).1), World.cell?, k3]; rfl
      · exact (hb.block s2 (Array.getElem?_eq_some_iff.1 k2).1).trans k2
      · rw [World.cell?_of_block (w := W) (hb.block s5 (Array.getElem?_eq_some_iff.1 k5).1), World.cell?, k5]; rfl
      · exact (hb.block s4 (Array.getElem?_eq_some_iff.1 k4).1).trans k4
  have HI : ∀ k : Nat, k < 2 → (∀ w, (Instr.indexAt 52 (.slice (some ⟨s3, 0, none⟩) 2 2) (.int .i64 (k : Int))).run Try.prog w = .ok (.pointer (some ⟨s3, k, none⟩)) w) ∧ (∀ w, (Instr.indexAt 55 (.slice (some ⟨s5, 0, none⟩) 2 2) (.int .i64 (k : Int))).run Try.prog w = .ok (.pointer (some ⟨s5, k, none⟩)) w) := by
    intro k hk
    obtain rfl | rfl : k = 0 ∨ k = 1 := by omega
    · exact ⟨fun w => by kernel_rfl, fun w => by kernel_rfl⟩
    · exact ⟨fun w => by kernel_rfl, fun w => by kernel_rfl⟩
  have HLd : ∀ wx, Below W.heap.size W wx → (Instr.loadAt 31 (.pointer (some ⟨z, 0, none⟩))).run Try.prog wx = .ok (.agg C) wx := fun wx hb => by
    rw [hC.out]
    exact load_fl h.t32 ((hb.block z (Array.getElem?_eq_some_iff.1 k0).1).trans (by rw [← hC.out]; exact k0))
  have HLn : ∀ wx, Below W.heap.size W wx → wx.cell? ⟨z, 2, none⟩ = some (.int .i64 f.n) := fun wx hb => by
    rw [World.cell?_of_block (w := W) (hb.block z (Array.getElem?_eq_some_iff.1 k0).1), World.cell?, k0, hC.out]; rfl
  have HLd := Lib.hid HLd
  have HLn := Lib.hid HLn
  have HK := Lib.hid HK
  have HI := Lib.hid HI
  have hfW : ∀ wx, Below w.heap.size w wx → f.At wx := fun wx hb => h.stay hb
  have HfW := Lib.hid hfW
  clear hfW k0 k2 k3 k4 k5
  go_loopw [7] (fun i wx => ∃ k : Nat, k ≤ 2 ∧ i = .int .i64 k ∧ Below W.heap.size W wx) (fun i _ => 2 - (intOf i).toNat)
  case atStart => exact ⟨0, Nat.zero_le _, rfl, Below.refl _ _⟩
  case round =>
    obtain ⟨k, hk, rfl, B⟩ := hrel
    have BW := bW.trans (B.mono bW.size)
    by_cases hlt : k < 2
    · obtain ⟨p, q, hpq⟩ := HK.out k hlt
      obtain ⟨i3, i5⟩ := HI.out k hlt
      have HPQ := Lib.hid hpq
      have I3 := Lib.hid i3
      have I5 := Lib.hid i5
      clear hpq i3 i5
      go_wp2_with fail
      have Hd : ∀ wx, Below wr.heap.size wr wx → Calls Try.prog 14 #[.pointer p, .agg C] wx (Zero wx (.pointer p)) := fun wx hb => by
        rw [hC.out]
        have B2 := B.trans (hb.mono B.size)
        exact deafladd_calls (HPQ.out wx B2).2.1.deaf f (HfW.out wx (bW.trans (B2.mono bW.size))) (Nat.le_trans HF.out (by decide))
      refine wp_region_one 5 (Below wr.heap.size wr) (Below wr.heap.size wr) (nobT s3 k p C) (fun d => decide (d = 26 ∨ d = 27 ∨ d = 28 ∨ d = 29 ∨ d = 30)) (by kernel_rfl) (by kernel_rfl) (by kernel_rfl) (by decide) ?_ ?_ ?_ ?_
      · intro w' hb hh
        exact hb
      · intro d v wx w' hd hT
        simp only [decide_eq_true_eq] at hd
        rcases hd with rfl | rfl | rfl | rfl | rfl <;> exact hT
      · refine opsAll_cons ?_ (opsAll_cons ?_ (opsAll_cons ?_ (opsAll_cons ?_ (opsAll_cons ?_ (opsAll_cons ?_ opsAll_nil)))))
        all_goals intro wa wx hk
        · exact ⟨wanted_free rfl, gp_move (.tmp 5) rfl ⟨⟨fun h => absurd h (by decide), fun _ => rfl⟩, hk.old 5 (by kernel_rfl)⟩⟩
        · exact ⟨wanted_free rfl, gp_move (.tmp 7) rfl ⟨⟨fun h => absurd h (by decide), fun _ => rfl⟩, hk.old 7 (by kernel_rfl)⟩⟩
        · exact ⟨wanted_free rfl, gp_index (.tmp 26) (.tmp 27) rfl (hk.slot 26 (by kernel_rfl)) (hk.slot 27 (by kernel_rfl)) (I3.out wx) ⟨⟨fun h => absurd h (by decide), fun _ => rfl⟩, rfl⟩⟩
        · have hb : Below wr.heap.size wr wx := hk.ab.elim id id
          have hc := (HPQ.out wx (B.trans (hb.mono B.size))).1
          exact ⟨wanted_free rfl, gp_load (.tmp 28) rfl (hk.slot 28 (by kernel_rfl)) (by simp [go_sem, hc]) ⟨⟨fun h => absurd h (by decide), fun _ => rfl⟩, rfl⟩⟩
        · have hb : Below wr.heap.size wr wx := hk.ab.elim id id
          exact ⟨wanted_free rfl, gp_load (.tmp 1) rfl (hk.old 1 (by kernel_rfl)) (HLd.out wx (B.trans (hb.mono B.size))) ⟨⟨fun h => absurd h (by decide), fun _ => rfl⟩, rfl⟩⟩
        · have hb := hk.now rfl
          refine ⟨wanted_free rfl, gp_call rfl (hk.fn _) #[.pointer p, .agg C] (fun w => by kernel_rfl) (by simp [show wa.eval (.tmp 29) = _ from hk.slot 29 (by kernel_rfl), show wa.eval (.tmp 30) = _ from hk.slot 30 (by kernel_rfl)]) ((Hd wx hb).mono ?_)⟩
          rintro r w' ⟨he, hb'⟩
          exact ⟨_, he, ⟨fun _ => hb.trans (hb'.mono hb.size), fun h => absurd rfl h⟩, rfl⟩
      intro wa wx hB hsame hT
      have he := act_same hsame [26, 27, 28, 29, 30, 31] (by kernel_rfl)
      simp only [List.foldl_cons, List.foldl_nil] at he
      rw [show wa.eval (.tmp 26) = _ from hT 26 (by kernel_rfl), show wa.eval (.tmp 27) = _ from hT 27 (by kernel_rfl), show wa.eval (.tmp 28) = _ from hT 28 (by kernel_rfl), show wa.eval (.tmp 29) = _ from hT 29 (by kernel_rfl), show wa.eval (.tmp 30) = _ from hT 30 (by kernel_rfl), show wa.eval (.tmp 31) = _ from hT 31 (by kernel_rfl)] at he
      subst he
      clear hT hsame Hd
      have Bx := B.trans (hB.mono B.size)
      have hpx := (HPQ.out wx Bx).1
      have hqx := (HPQ.out wx Bx).2.2.1
      clear hB BW
      go_wp2_with fail
      refine (nodone_calls (HPQ.out wx Bx).2.1).mono ?_
      rintro e w8 ⟨rfl, rfl⟩
      go_wp2_with fail
      refine (nobyte_calls (HPQ.out _ Bx).2.2.2).mono ?_
      rintro e w11 ⟨rfl, hb11⟩
      have B11 := Bx.trans (hb11.mono Bx.size)
      go_wp2_with fail
      refine (noint_calls (HPQ.out _ B11).2.2.2).mono ?_
      rintro e w12 ⟨rfl, hb12⟩
      have B12 := B11.trans (hb12.mono B11.size)
      go_wp2_with fail
      refine (noflag_calls (HPQ.out _ B12).2.2.2).mono ?_
      rintro e w13 ⟨rfl, hb13⟩
      have B13 := B12.trans (hb13.mono B12.size)
      go_wp2_with fail
      refine (nobytes_calls (HPQ.out _ B13).2.2.2).mono ?_
      rintro e w14 ⟨rfl, hb14⟩
      have B14 := B13.trans (hb14.mono B13.size)
      go_wp2_with fail
      refine (notext_calls (HPQ.out _ B14).2.2.2).mono ?_
      rintro e w15 ⟨rfl, hb15⟩
      have B15 := B14.trans (hb15.mono B14.size)
      go_wp2_with fail
      refine (notag_calls (HPQ.out _ B15).2.2.2).mono ?_
      rintro e w16 ⟨rfl, hb16⟩
      have B16 := B15.trans (hb16.mono B15.size)
      have cn := HLn.out _ B16
      go_wp2_with (first | ((with_reducible refine wpList_value_g (o := ⟨some 77, .build _ _, _, _, _, _⟩) (by with_unfolding_all rfl) (build_tag _ _ _ _ _) ?_)) | ((with_reducible refine wpList_value_g (o := ⟨some 78, .binOp _ _ _ _ _, _, _, _, _⟩) (by with_unfolding_all rfl) (neq_tag_run _ _ _ _ _ _ _ (by with_unfolding_all rfl) (by with_unfolding_all rfl)) ?_)))
      refine (nocount_calls (HPQ.out _ B16).2.2.2 f.n).mono ?_
      rintro e w17 ⟨rfl, hb17⟩
      have B17 := B16.trans (hb17.mono B16.size)
      go_wp2_with fail
      refine (noleft_calls (HPQ.out _ B17).2.2.2).mono ?_
      rintro e w18 ⟨rfl, rfl⟩
      go_wp2_with fail
      refine (noerr_calls (HPQ.out _ B17).2.2.2).mono ?_
      rintro e w19 ⟨rfl, rfl⟩
      go_wp2_with fail
      refine (noend_calls (HPQ.out _ B17).2.2.2).mono ?_
      rintro e w20 ⟨rfl, rfl⟩
      go_wp2_with fail
      go_roundw
      case rel => exact ⟨k + 1, by omega, by go_num, B17⟩
      case measure => simp [intOf]; omega
    · go_wp2_with fail
      go_ret
      exact ⟨rfl, BW⟩
end Go.Proofs.Ytglmijcfdcajkaa
