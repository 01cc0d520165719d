/- The reference's readers of layer 5: contracts, against the same St as the program's. -/
import Derived.Test.YtpnbaapjjchlbaaGx
import Derived.Test.YtpnbaapjjchlbaaOne
namespace Go.Proofs.Ytpnbaapjjchlbaa
open Go Go.RowKit Go.Cit

/-- A reference's reader lies in block b. -/
structure Rf (base top : Nat) (w : World) (b : Nat) (a : Option Addr) (B : List UInt8) (c : Nat) (at_ : Nat) (e : Int) : Prop where
  blk : w.heap[b]? = some (.cells #[.slice a B.length c, .int .i64 at_, .int .i64 e] 170 (0, 0))
  row : Row w a B c
  ge : base ≤ b
  off : B ≠ [] → ∀ g, Go.Cit.blk a = some g → g ≠ b ∧ base ≤ g ∧ g < top
  len : B.length ≤ 65536
  le : at_ ≤ B.length
theorem Rf.lt {base top w b a B c t e} (h : Rf base top w b a B c t e) : b < w.heap.size := (Array.getElem?_eq_some_iff.1 h.blk).1
theorem Rf.c0 {base top w b a B c t e} (h : Rf base top w b a B c t e) : w.cell? ⟨b, 0, none⟩ = some (.slice a B.length c) := by rw [World.cell?, h.blk]; rfl
theorem Rf.c1 {base top w b a B c t e} (h : Rf base top w b a B c t e) : w.cell? ⟨b, 1, none⟩ = some (.int .i64 t) := by rw [World.cell?, h.blk]; rfl
theorem Rf.c2 {base top w b a B c t e} (h : Rf base top w b a B c t e) : w.cell? ⟨b, 2, none⟩ = some (.int .i64 e) := by rw [World.cell?, h.blk]; rfl
theorem Rf.fr {base top w b a B c t e} (h : Rf base top w b a B c t e) (i : Nat) : w.frozen? ⟨b, i, none⟩ = false := by simp [World.frozen?, h.blk]
theorem Rf.save {S : Nat → Prop} {base top w w' b a B c t e} (h : Rf base top w b a B c t e) (hs : Save S w w') (hb : S b) (ha : B ≠ [] → ∀ g, Go.Cit.blk a = some g → S g) : Rf base top w' b a B c t e :=
  ⟨by rw [hs.block b h.lt hb]; exact h.blk, h.row.save' hs ha, h.ge, h.off, h.len, h.le⟩
theorem Rf.stay {base top w w' b a B c t e} (h : Rf base top w b a B c t e) (hs : Below w.heap.size w w') : Rf base top w' b a B c t e := h.save (Save.of (S := fun _ => True) hs) trivial (fun _ _ _ => trivial)

/-- A reference's reader that is s. -/
def RfAt (base top : Nat) (w : World) (b : Nat) (s : St) : Prop := ∃ a B c t, Rf base top w b a B c t s.e ∧ (s.e = 0 → B.drop t = s.l)
theorem RfAt.save {S : Nat → Prop} {base top w w' b s} (h : RfAt base top w b s) (hs : Save S w w') (hb : S b) (ht : ∀ g, base ≤ g → g < top → S g) : RfAt base top w' b s := by
  obtain ⟨a, B, c, t, h, he⟩ := h
  exact ⟨a, B, c, t, h.save hs hb (fun hl g hg => ht g (h.off hl g hg).2.1 (h.off hl g hg).2.2), he⟩
theorem RfAt.stay {base top w w' b s} (h : RfAt base top w b s) (hb : Below w.heap.size w w') : RfAt base top w' b s := by
  obtain ⟨a, B, c, t, h, he⟩ := h; exact ⟨a, B, c, t, h.stay hb, he⟩

theorem set1 {w : World} {b : Nat} {x y z v : Value} {T : TypeId} {fr : Nat × Nat} (h : w.heap[b]? = some (.cells #[x, y, z] T fr)) : (w.setCell ⟨b, 1, none⟩ v).heap[b]? = some (.cells #[x, v, z] T fr) := by
  simp [World.setCell, Array.getElem?_modify, h]

theorem refnew_calls (w : World) {a0 : Option Addr} {l : List UInt8} {c0 : Nat} (h0 : Row w a0 l c0) :
    Calls Try.prog 114 #[.slice a0 l.length c0] w fun r w' => ∃ b, Hid (w.heap.size ≤ b ∧ b < w'.heap.size) ∧ r = .returned (.pointer (some ⟨b, 0, none⟩)) ∧ RfAt w.heap.size w'.heap.size w' b (St.new l) ∧ Below w.heap.size w w' := by
  have hlen := h0.len_le
  go_enter Try.func114, Try.ntmps114
  by_cases hl : 65536 < l.length
  · have HE : Hid (St.new l = ⟨[], 3⟩) := by rw [Hid, St.new, if_neg (by omega)]
    go_wp2_with fail
    go_ret
    refine ⟨w.heap.size, ⟨Nat.le_refl _, by simp⟩, rfl, ?_, (Below.refl _ _).alloc (Nat.le_refl _) _⟩
    rw [HE.out]
    exact ⟨none, [], 0, 0, ⟨heap_alloc_new w _, Row.nil_ _, Nat.le_refl _, fun h => absurd rfl h, by simp, by simp⟩, fun h => absurd h (by decide)⟩
  · have HE : Hid (St.new l = ⟨l, 0⟩) := by rw [Hid, St.new, if_pos (by omega)]
    have hl9 : l.length ≤ 65536 := by omega
    clear hl
    go_wp2_with fail
    refine (toXo (copy_calls _ _ _ _ h0 (by omega))).mono ?_
    rintro e w2 ⟨a2, X, c2, HX, rfl, hm2, hb2⟩
    have hXl : X.length ≤ 65536 := by rw [HX.out]; exact hl9
    go_wp2_with fail
    go_ret
    refine ⟨w2.heap.size, ⟨hb2.size, by simp⟩, rfl, ?_, hb2.trans ((Below.refl _ _).alloc (by have := hb2.size; omega) _)⟩
    rw [HE.out]
    refine ⟨a2, X, c2, 0, ⟨heap_alloc_new w2 _, hm2.row.stay ((Below.refl _ _).alloc (Nat.le_refl _) _), hb2.size, fun hX g hg => ?_, hXl, Nat.zero_le _⟩, fun _ => by rw [List.drop_zero, HX.out]⟩
    have h1 := hm2.row.blk (List.length_pos_iff.2 hX)
    have h2 : g < w2.heap.size := by
      cases a2 with
      | none => simp [blk] at hg
      | some p => simp [blk, ad] at hg h1; omega
    exact ⟨by omega, hm2.new g hg, by simp; omega⟩

theorem rfnext_no {base top w b a B c t e} (h : Rf base top w b a B c t e) (n : Int) (hn : 0 ≤ n) (hn9 : n ≤ 1000000) (hno : e = 0 → ((B.length - t : Nat) : Int) < n) :
    Calls Try.prog 162 #[.pointer (some ⟨b, 0, none⟩), .int .i64 n] w fun r w' => r = .returned (.tuple #[.slice none 0 0, .bool false]) ∧ RfAt base top w' b (St.breaks ⟨B.drop t, e⟩) ∧ Save (· ≠ b) w w' := by
  have c0 := h.c0
  have c1 := h.c1
  have c2 := h.c2
  have f2 := h.fr 2
  have hl := h.len
  have hle := h.le
  go_enter Try.func162, Try.ntmps162
  by_cases he : e = 0
  · have ge : (e != 0) = false := by rw [he]; rfl
    have hlt := hno he
    have HE : Hid (St.breaks ⟨B.drop t, e⟩ = St.broke) := by rw [Hid, St.breaks, if_pos he]
    have hlt2 : (B.length : Int) - t < n := by omega
    clear hno he hlt
    go_wp2_with fail
    have d0 : ∀ k, (w.drewN k).cell? ⟨b, 0, none⟩ = some (.slice a B.length c) := fun _ => c0
    have d1 : ∀ k, (w.drewN k).cell? ⟨b, 1, none⟩ = some (.int .i64 t) := fun _ => c1
    go_quiet (fail)
    go_wp2_with fail
    go_ret2
    have hS : Save (· ≠ b) w ((w.setCell ⟨b, 2, none⟩ (.int .i64 50)).drewN nq) := Save.set.trans (Save.drewN _ _)
    refine ⟨rfl, ?_, hS⟩
    rw [HE.out]
    exact ⟨a, B, c, t, ⟨set2 (v := .int .i64 50) h.blk, h.row.save' hS (fun hB g hg => (h.off hB g hg).1), h.ge, h.off, h.len, h.le⟩, fun h => absurd h (by decide)⟩
  · have ge : (e != 0) = true := by simpa using he
    have HE : Hid (St.breaks ⟨B.drop t, e⟩ = ⟨B.drop t, e⟩) := by rw [Hid, St.breaks, if_neg he]
    clear hno he
    go_wp2_with fail
    go_ret2
    refine ⟨rfl, ?_, Save.refl _ _⟩
    rw [HE.out]
    exact ⟨a, B, c, t, h, fun _ => rfl⟩

theorem gp_slice {P : Program} {w : World} {o : Oper} {ρ : Operand → Value} {post : Value → World → Prop} {ty : TypeId} {x : Operand} {lo hi mx : Option Operand} (h : o.op = .slice ty x lo hi mx) {vx v : Value} {vl vh vm : Option Value} (hx : ρ x = vx) (hl : lo.map ρ = vl) (hh : hi.map ρ = vh) (hm : mx.map ρ = vm)
    (hr : ∀ w, (Instr.sliceAt ty vx vl vh vm).run P w = .ok v w) (hp : post v w) : GivesP P post ((execOp ρ o).run P w) := by
  refine gp_run (v := v) (w' := w) ?_ hp
  unfold execOp; rw [h]; dsimp only; rw [hx, hl, hh, hm, Sem.run_bind, hr]; rfl

def nextT (W : World) (b : Nat) (a : Option Addr) (B : List UInt8) (c : Nat) (v1 n t : Int) (a1 : Option Addr) (m : List UInt8) (c1 : Nat) : Nat → Value → World → Prop
  | 38, v, _ => v = .slice a B.length c
  | 41, v, _ => v = .pointer (some ⟨b, 1, none⟩)
  | 47, v, _ => v = .pointer (some ⟨b, 1, none⟩)
  | 42, v, _ => v = .int .i64 v1
  | 48, v, _ => v = .int .i64 v1
  | 43, v, _ => v = .int .i64 n
  | 44, v, _ => v = .int .i64 t
  | 49, v, _ => v = .slice a1 m.length c1
  | 50, v, wx => ∃ a2 X c2, Hid (X = m) ∧ v = .slice a2 X.length c2 ∧ Mine W.heap.size wx a2 X c2
  | 4, v, wx => ∃ a2 X c2, Hid (X = m) ∧ v = .slice a2 X.length c2 ∧ Mine W.heap.size wx a2 X c2
  | 5, v, _ => v = .bool true
  | _, v, _ => v = .pointer (some ⟨b, 0, none⟩)
theorem nextT_early {W b a B c v1 n t a1 m c1 d v w w'} (hd : (!decide (d = 50 ∨ d = 4)) = true) (h : nextT W b a B c v1 n t a1 m c1 d v w) : nextT W b a B c v1 n t a1 m c1 d v w' := by
  unfold nextT at h ⊢
  split <;> simp_all

set_option maxRecDepth 100000 in
set_option maxHeartbeats 4000000 in
theorem rfnext_yes {base top w b a B c t} (h : Rf base top w b a B c t 0) (n : Nat) (hn : n ≤ B.length - t) :
    Calls Try.prog 162 #[.pointer (some ⟨b, 0, none⟩), .int .i64 n] w fun r w' => ∃ a' X c', Hid (X = (B.drop t).take n) ∧ r = .returned (.tuple #[.slice a' X.length c', .bool true]) ∧ Mine w.heap.size w' a' X c' ∧ RfAt base top w' b ⟨(B.drop t).drop n, 0⟩ ∧ Save (· ≠ b) w w' := by
  have c0 := h.c0
  have c1 := h.c1
  have c2 := h.c2
  have f1 := h.fr 1
  have hl := h.len
  have hle := h.le
  obtain ⟨v1, hv1⟩ : ∃ v1 : Int, Hid (v1 = (t : Int) + n) := ⟨_, rfl⟩
  have hsub : v1 - n = t := by rw [hv1.out]; omega
  have hv0 : 0 ≤ v1 ∧ v1 ≤ 200000 := by rw [hv1.out]; omega
  obtain ⟨hv0, hv9⟩ := hv0
  have HN := Lib.hid hn
  have d0' : ∀ k, (w.drewN k).cell? ⟨b, 0, none⟩ = some (.slice a B.length c) := fun _ => c0
  have d1' : ∀ k, (w.drewN k).cell? ⟨b, 1, none⟩ = some (.int .i64 t) := fun _ => c1
  have f1' : ∀ k, (w.drewN k).frozen? ⟨b, 1, none⟩ = false := fun _ => f1
  go_enter Try.func162, Try.ntmps162
  go_wp2_with fail
  go_quiet (fail)
  go_wp2_with fail
  rw [← hv1.out]
  have hS : Save (· ≠ b) w ((w.drewN nq).setCell ⟨b, 1, none⟩ (.int .i64 v1)) := (Save.drewN _ _).trans Save.set
  have hk1 : ((w.drewN nq).setCell ⟨b, 1, none⟩ (.int .i64 v1)).heap[b]? = _ := set1 (w := w.drewN nq) (v := .int .i64 v1) h.blk
  generalize (w.drewN nq).setCell ⟨b, 1, none⟩ (.int .i64 v1) = W at hS hk1 ⊢
  clear d0' d1' f1' c0 c1 c2 f1 hn
  have hr1 := h.row.save' hS (fun hB g hg => (h.off hB g hg).1)
  obtain ⟨a1, m, c1', hm, hrun, r1⟩ := hr1.part bt.slice bt.sz t (t + n) (by omega) (by have := HN.out; omega)
  have HM : Hid (m = (B.drop t).take n) := by rw [Hid, hm, List.take_drop, Nat.add_comm]
  have hml : m.length ≤ 65536 := by rw [hm, List.length_drop, List.length_take]; have := HN.out; omega
  rw [show ((t + n : Nat) : Int) = v1 by rw [hv1.out]; omega] at hrun
  have d0 : ∀ {wx : World}, (wx.heap = W.heap ∨ Below W.heap.size W wx) → wx.cell? ⟨b, 0, none⟩ = some (.slice a B.length c) ∧ wx.cell? ⟨b, 1, none⟩ = some (.int .i64 v1) := by
    intro wx hx
    have hh : wx.heap[b]? = W.heap[b]? := by
      rcases hx with hx | hx
      · rw [hx]
      · exact hx.block b (Array.getElem?_eq_some_iff.1 hk1).1
    rw [hk1] at hh
    exact ⟨by rw [World.cell?, hh]; rfl, by rw [World.cell?, hh]; rfl⟩
  have HB := Lib.hid hk1
  clear hm hk1
  refine wp_region_one 15 (fun wx => wx.heap = W.heap ∧ Below W.heap.size W wx) (fun wx => Below W.heap.size W wx) (nextT W b a B c v1 n t a1 m c1') (fun d => !decide (d = 50 ∨ d = 4)) (by kernel_rfl) (by kernel_rfl) (by kernel_rfl) (by decide) ?_ ?_ ?_ ?_
  · intro w' hb hh
    exact ⟨hh, hb⟩
  · intro d v w1 w2 hd hT
    exact nextT_early hd hT
  · refine opsAll_cons ?_ (opsAll_cons ?_ (opsAll_cons ?_ (opsAll_cons ?_ (opsAll_cons ?_ (opsAll_cons ?_ (opsAll_cons ?_ (opsAll_cons ?_ (opsAll_cons ?_ (opsAll_cons ?_ (opsAll_cons ?_ (opsAll_cons ?_ (opsAll_cons ?_ (opsAll_cons ?_ (opsAll_cons ?_ (opsAll_cons ?_ (opsAll_cons ?_ (opsAll_cons ?_ opsAll_nil)))))))))))))))))
    all_goals intro wa wx hk
    · exact ⟨wanted_free rfl, gp_move (.tmp 0) rfl ⟨⟨fun h => absurd h (by decide), fun _ => rfl⟩, hk.old 0 (by kernel_rfl)⟩⟩
    · exact ⟨wanted_free rfl, gp_nil (.tmp 35) rfl (hk.slot 35 (by kernel_rfl)) ⟨⟨fun h => absurd h (by decide), fun _ => rfl⟩, rfl⟩⟩
    · exact ⟨wanted_free rfl, gp_field (.tmp 36) rfl (hk.slot 36 (by kernel_rfl)) (fun w => by kernel_rfl) ⟨⟨fun h => absurd h (by decide), fun _ => rfl⟩, rfl⟩⟩
    · have hc := (d0 (hk.ab.elim (fun h => .inl h.1) .inr)).1
      exact ⟨wanted_free rfl, gp_load (.tmp 37) rfl (hk.slot 37 (by kernel_rfl)) (by simp [go_sem, hc]) ⟨⟨fun h => absurd h (by decide), fun _ => rfl⟩, rfl⟩⟩
    · exact ⟨wanted_free rfl, gp_move (.tmp 0) rfl ⟨⟨fun h => absurd h (by decide), fun _ => rfl⟩, hk.old 0 (by kernel_rfl)⟩⟩
    · exact ⟨wanted_free rfl, gp_nil (.tmp 39) rfl (hk.slot 39 (by kernel_rfl)) ⟨⟨fun h => absurd h (by decide), fun _ => rfl⟩, rfl⟩⟩
    · exact ⟨wanted_free rfl, gp_field (.tmp 40) rfl (hk.slot 40 (by kernel_rfl)) (fun w => by kernel_rfl) ⟨⟨fun h => absurd h (by decide), fun _ => rfl⟩, rfl⟩⟩
    · have hc := (d0 (hk.ab.elim (fun h => .inl h.1) .inr)).2
      exact ⟨wanted_free rfl, gp_load (.tmp 41) rfl (hk.slot 41 (by kernel_rfl)) (by simp [go_sem, hc]) ⟨⟨fun h => absurd h (by decide), fun _ => rfl⟩, rfl⟩⟩
    · exact ⟨wanted_free rfl, gp_move (.tmp 1) rfl ⟨⟨fun h => absurd h (by decide), fun _ => rfl⟩, hk.old 1 (by kernel_rfl)⟩⟩
    · exact ⟨wanted_free rfl, gp_bin rfl (hk.slot 42 (by kernel_rfl)) (hk.slot 43 (by kernel_rfl)) (v := .int .i64 t) (fun w => by rw [← hsub]; go_simp; exact IntWalk.i64_in _ (by omega)) ⟨⟨fun h => absurd h (by decide), fun _ => rfl⟩, rfl⟩⟩
    · exact ⟨wanted_free rfl, gp_move (.tmp 0) rfl ⟨⟨fun h => absurd h (by decide), fun _ => rfl⟩, hk.old 0 (by kernel_rfl)⟩⟩
    · exact ⟨wanted_free rfl, gp_nil (.tmp 45) rfl (hk.slot 45 (by kernel_rfl)) ⟨⟨fun h => absurd h (by decide), fun _ => rfl⟩, rfl⟩⟩
    · exact ⟨wanted_free rfl, gp_field (.tmp 46) rfl (hk.slot 46 (by kernel_rfl)) (fun w => by kernel_rfl) ⟨⟨fun h => absurd h (by decide), fun _ => rfl⟩, rfl⟩⟩
    · have hc := (d0 (hk.ab.elim (fun h => .inl h.1) .inr)).2
      exact ⟨wanted_free rfl, gp_load (.tmp 47) rfl (hk.slot 47 (by kernel_rfl)) (by simp [go_sem, hc]) ⟨⟨fun h => absurd h (by decide), fun _ => rfl⟩, rfl⟩⟩
    · exact ⟨wanted_free rfl, gp_slice rfl (hk.slot 38 (by kernel_rfl)) (congrArg some (show wa.eval (.tmp 44) = _ from hk.slot 44 (by kernel_rfl))) (congrArg some (show wa.eval (.tmp 48) = _ from hk.slot 48 (by kernel_rfl))) rfl hrun ⟨⟨fun h => absurd h (by decide), fun _ => rfl⟩, rfl⟩⟩
    · obtain ⟨hh, hbl⟩ := hk.now rfl
      have e49 : wa.eval (.tmp 49) = _ := hk.slot 49 (by kernel_rfl)
      have r2 : Row wx a1 m c1' := r1.stay hbl
      refine ⟨wanted_free rfl, gp_call rfl (hk.fn _) #[.slice a1 m.length c1'] (fun w => by kernel_rfl) (by simp [e49]) ((toXo (copy_calls _ _ _ _ r2 (by omega))).mono ?_)⟩
      rintro e w' ⟨a2, X, c2, HX, he, hm2, hb2⟩
      have hz : wx.heap.size = W.heap.size := by rw [hh]
      refine ⟨_, he, ⟨fun _ => hbl.trans (hb2.mono (by omega)), fun h => absurd rfl h⟩, a2, X, c2, HX, rfl, hm2.low (by omega)⟩
    · exact ⟨wanted_free rfl, gp_assign (.tmp 50) rfl ⟨⟨fun h => absurd h (by decide), fun _ => rfl⟩, hk.slot 50 (by kernel_rfl)⟩⟩
    · exact ⟨wanted_free rfl, gp_assign (.const (.bool true)) rfl ⟨⟨fun h => absurd h (by decide), fun _ => rfl⟩, hk.lit _⟩⟩
  · intro wa wx hB hsame hT
    rename_i hK
    obtain ⟨a2, X, c2, HX, h4, hm4⟩ := hT 4 (by kernel_rfl)
    obtain ⟨a3, X3, c3, _, h50, _⟩ := hT 50 (by kernel_rfl)
    have h5 : wa.eval (.tmp 5) = _ := hT 5 (by kernel_rfl)
    have hd := hsame.1
    clear hT hsame
    have hR : Rf base top W b a B c (t + n) 0 := ⟨by rw [HB.out, hv1.out]; rfl, hr1, h.ge, h.off, h.len, by have := HN.out; omega⟩
    refine hK wa wx ?_
    apply wp_ret
    refine bodyPost_ret (results_tmp2 rfl _ _ _) hd ⟨a2, X, c2, by rw [Hid, HX.out, HM.out], ?_, hm4.low hS.size, ?_, hS.trans (Save.of hB)⟩
    · show Ending.returned (.tuple #[wa.eval (.tmp 4), wa.eval (.tmp 5)]) = _
      rw [h4, h5]
    · exact ⟨a, B, c, t + n, hR.stay hB, fun _ => by rw [List.drop_drop]⟩

/-- What a reference's reader reads as a number. -/
def St.num (s : St) (n : Nat) : UInt64 × St := match s.next n with | (some x, s') => (numB x, s') | (none, s') => (0, s')

theorem rfnumber_calls {base top w b s} (h : RfAt base top w b s) (n : Nat) (h1 : 1 ≤ n) (h8 : n ≤ 8) :
    Calls Try.prog 161 #[.pointer (some ⟨b, 0, none⟩), .int .i64 n] w fun r w' => r = .returned (vq (St.num s n).1) ∧ RfAt base top w' b (St.num s n).2 ∧ Save (· ≠ b) w w' := by
  obtain ⟨a, B, c, t, hR, hd⟩ := h
  obtain ⟨l, e⟩ := s
  by_cases hy : e = 0 ∧ n ≤ B.length - t
  · obtain ⟨rfl, hn⟩ := hy
    obtain rfl : B.drop t = l := hd rfl
    have hle := hR.le
    have hnx : St.next ⟨B.drop t, 0⟩ n = (some ((B.drop t).take n), ⟨(B.drop t).drop n, 0⟩) := next_yes (by rw [List.length_drop]; exact hn)
    have HN : Hid (St.num ⟨B.drop t, 0⟩ n = (numB ((B.drop t).take n), ⟨(B.drop t).drop n, 0⟩)) := by rw [Hid, St.num, hnx]
    have hk := rfnext_yes hR n hn
    have HL : Hid (((B.drop t).take n).length = n) := by rw [Hid, List.length_take, List.length_drop]; omega
    clear hnx hd hn
    go_enter Try.func161, Try.ntmps161
    go_wp2_with fail
    refine Calls.mono hk ?_
    rintro r w1 ⟨a1, X, c1, HX, rfl, hm1, hR1, hS1⟩
    go_wp2_with fail
    refine (refnumber_calls _ _ _ _ hm1.row).mono ?_
    rintro r w2 ⟨rfl, hw2⟩
    subst hw2
    have hv : numV X = numB ((B.drop t).take n) := by rw [numV, HX.out, if_pos (by rw [HL.out]; exact ⟨h1, h8⟩)]
    have HV := Lib.hid hv
    clear hv hk
    go_wp2_with fail
    go_ret
    rw [HN.out, HV.out]
    exact ⟨rfl, hR1, hS1⟩
  · have hno : e = 0 → ((B.length - t : Nat) : Int) < n := fun he => by have := fun h => hy ⟨he, h⟩; omega
    have hnx : St.next ⟨l, e⟩ n = (none, St.breaks ⟨l, e⟩) := next_no (fun he => by have h2 := hno he; have h3 := hd he; simp only at h3; rw [← h3, List.length_drop]; omega)
    have HN : Hid (St.num ⟨l, e⟩ n = (0, St.breaks ⟨l, e⟩)) := by rw [Hid, St.num, hnx]
    have hk := rfnext_no hR n (by omega) (by omega) hno
    have HB : Hid (∀ {w'}, RfAt base top w' b (St.breaks ⟨B.drop t, e⟩) → RfAt base top w' b (St.breaks ⟨l, e⟩)) := by
      intro w' hh
      by_cases he : e = 0
      · have h3 := hd he
        simp only at h3
        rw [← h3]; exact hh
      · unfold St.breaks at hh ⊢
        rw [if_neg he] at hh ⊢
        obtain ⟨a', B', c', t', hR', _⟩ := hh
        exact ⟨a', B', c', t', hR', fun h0 => absurd h0 he⟩
    clear hno hy hnx
    go_enter Try.func161, Try.ntmps161
    go_wp2_with fail
    refine Calls.mono hk ?_
    rintro r w1 ⟨rfl, hR1, hS1⟩
    go_wp2_with fail
    go_ret
    rw [HN.out]
    exact ⟨rfl, HB.out hR1, hS1⟩
end Go.Proofs.Ytpnbaapjjchlbaa
