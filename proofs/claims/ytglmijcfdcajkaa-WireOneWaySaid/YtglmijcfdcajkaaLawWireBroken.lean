/- WireBroken: of a broken reader nothing mends it; what it tells is nothing. The walk of the law. -/
import Derived.Test.YtglmijcfdcajkaaWireBackLaw
import Derived.Test.YtglmijcfdcajkaaLawWireNobody
namespace Go.Proofs.Ytglmijcfdcajkaa
open Go Go.RowKit Go.Cit

theorem Flds.fieldN {w a fs cap} (h : Flds w a fs cap) (i : Nat) (hi : i < fs.length) :
    w.cell? ⟨(ad a (i * 37)).block, (ad a (i * 37)).off, none⟩ = some (.int .i64 fs[i].what) ∧ w.cell? ⟨(ad a (i * 37)).block, (ad a (i * 37)).off + 2, none⟩ = some (.int .i64 fs[i].n) ∧ w.cell? (ad a (i * 37)) = some (.int .i64 fs[i].what) := by
  obtain ⟨b, off, rfl⟩ := h.spot (by intro h0; simp [h0] at hi)
  exact ⟨h.cell i hi 0 (by decide), h.cell i hi 2 (by decide), h.cell i hi 0 (by decide)⟩

theorem tagLoad {w : World} {b : Nat} {f : Fl} (h : CellsAt w b f.cs) (ht : f.t = zeros32) : (Instr.loadAt 29 (.pointer (some ⟨b, 5, none⟩))).run Try.prog w = .ok (.agg (zeros32.map vb).toArray) w := by
  refine load_tag w b 5 zeros32 rfl (fun k hk => h (5 + k) _ ?_)
  have : f.cs = [.int .i64 f.what, vb f.x, .int .i64 f.n, .bool f.is, .slice f.a f.l.length f.c] ++ zeros32.map vb := by rw [← ht]; rfl
  rw [this, List.getElem?_append_right (by simp)]
  simp [hk]
section
variable {ops : Array Oper} {rest : List Oper} {o : Oper} {act : Act} {w : World} {Q : Exit → Act → World → Prop}
theorem wpList_load_gd {T : TypeId} {x : Operand} {p v : Value} (hgd : Region.wanted o (yielded ops act.tmps) = true) (ho : o.op = .load T x) (hx : act.eval x = p) (hr : (Instr.loadAt T p).run Try.prog w = .ok v w)
    (h : wpList Try.prog ops Q rest (act.put o.dst v) w) : wpList Try.prog ops Q (o :: rest) act w := by
  refine wpList_value_g (w' := w) (v := v) hgd ?_ h
  unfold execOp
  simp only [ho, hx, Sem.run_bind, hr, Result.andThen, Sem.run_pure]
end

set_option maxRecDepth 100000 in
set_option maxHeartbeats 4000000 in
theorem wireBroken_law (w : World) (a1 : Option Addr) (l : List UInt8) (c1 : Nat) (a0 : Option Addr) (fs : List Fl) (c0 : Nat) (h1 : Row w a1 l c1) (h0 : Flds w a0 fs c0) :
    Calls Try.prog 8 #[.slice a1 l.length c1, .slice a0 fs.length c0] w fun e w' => e = .returned (.bool true) ∧ Below w.heap.size w w' := by
  have hlen := h0.len_le
  by_cases hl : 300 < l.length
  · go_enter Try.func8, Try.ntmps8
    go_wp2_with fail
    refine (wireAwake_calls _).mono ?_
    rintro e w1 ⟨rfl, hb1⟩
    go_wp2_with fail
    go_ret
    exact ⟨rfl, hb1⟩
  by_cases hf : 40 < fs.length
  · go_enter Try.func8, Try.ntmps8
    go_wp2_with fail
    refine (wireAwake_calls _).mono ?_
    rintro e w1 ⟨rfl, hb1⟩
    go_wp2_with fail
    go_ret
    exact ⟨rfl, hb1⟩
  go_enter Try.func8, Try.ntmps8
  go_wp2_with fail
  refine (wireAwake_calls _).mono ?_
  rintro e w1 ⟨rfl, hb1⟩
  have r1 := h1.stay hb1
  go_wp2_with fail
  refine (newreader_calls _ r1).mono ?_
  rintro e w2 ⟨rfl, hR, hb2⟩
  have hnew : St.new l = ⟨l, 0⟩ := by rw [St.new, if_pos (by omega)]
  rw [hnew] at hR
  have z1 := hb1.size
  have z2 : w1.heap.size < w2.heap.size := by obtain ⟨a, c, hr⟩ := hR; exact hr.lt
  have B2 := hb1.trans (hb2.mono z1)
  clear hb1 hb2 hnew hl r1
  go_wp2_with fail
  go_loopw [6, 7] (fun e i wx => ∃ (k : Nat) (s : St), k ≤ fs.length ∧ i = .int .i64 k ∧ e = .int .i64 s.e ∧ Hid (OkSt s) ∧ RdAt w1.heap.size w2.heap.size wx w1.heap.size s ∧ Below w.heap.size w wx ∧ w2.heap.size ≤ wx.heap.size) (fun _ i _ => fs.length - (intOf i).toNat)
  case atStart => exact ⟨0, ⟨l, 0⟩, Nat.zero_le _, rfl, rfl, .inl rfl, hR, B2, Nat.le_refl _⟩
  case round =>
    clear hR B2
    obtain ⟨k, s, hk, rfl, rfl, HO, hR, B, hz⟩ := hrel
    by_cases hlt : k < fs.length
    · obtain ⟨a, c, hr⟩ := hR
      have q0 := h0.stay B
      have i0 := q0.index k hlt
      obtain ⟨c00, c02, c00'⟩ := q0.fieldN k hlt
      have hback := back_calls hr fs[k].what (q0.fld k hlt).hw hz
      have HA := Lib.hid (fun ρ d ty ps af w => alloc_fl ρ d ty ps (af := af) w)
      have HZ := Lib.hid (fl_one (Fl0 0) rfl)
      obtain ⟨Z, hZ⟩ : ∃ Z, Hid (Z = (Fl0 0).cs.toArray) := ⟨_, rfl⟩
      rw [← hZ.out] at HA HZ
      by_cases hw : fs[k].what < 0 ∨ 5 < fs[k].what
      · have hwc : (decide (fs[k].what < 0) = true) ∨ (decide (fs[k].what < 0) = false ∧ decide (5 < fs[k].what) = true) := by
          by_cases h : fs[k].what < 0
          · exact .inl (by simpa using h)
          · exact .inr ⟨by simpa using h, by simp; omega⟩
        clear hw
        rcases hwc with w0 | ⟨w0, w5⟩
        all_goals
          rcases HO.out with he | hbr
          · obtain ⟨sl, se⟩ := s
            have he : se = 0 := he
            subst he
            go_wp2_with fail
            refine Calls.mono hback ?_
            rintro e w3 ⟨f, s3, HB, rfl, hf3, hnew3, hR3, hS3⟩
            clear hback i0 c00 c02 c00'
            have hO3 := back_st HB.out HO.out
            have HF := Lib.hid (fl_one f hf3.t32)
            obtain ⟨FC, hFC⟩ : ∃ Z, Hid (Z = f.cs.toArray) := ⟨_, rfl⟩
            rw [← hFC.out] at HF ⊢
            have bA := Lib.hid (heap_alloc_new w3 (.cells Z 31))
            have gA : Below w3.heap.size w3 (w3.alloc (.cells Z 31)) := (Below.refl _ _).alloc (Nat.le_refl _) _
            have z3 := hS3.size
            have rlt : w1.heap.size < w3.heap.size := by omega
            have B3 : Below w.heap.size w w3 := B.trans (hS3.below B.size (fun g hg => by omega))
            have HM : ∀ w4, w4.heap[w3.heap.size]? = some (.cells FC 31 (0, 0)) → Save (· ≠ w3.heap.size) (w3.alloc (.cells Z 31)) w4 → Hid (RdAt w1.heap.size w2.heap.size w4 w1.heap.size s3 ∧ Below w.heap.size w w4 ∧ w2.heap.size ≤ w4.heap.size ∧ w3.heap.size < w4.heap.size) := fun w4 _ hS4 => by
              have z4 := hS4.size
              simp at z4
              exact ⟨(hR3.stay gA).save hS4 (by omega) (fun g _ hg => by omega), (B3.trans (gA.mono B3.size)).trans (hS4.below (by have := B3.size; simp; omega) (fun g hg => by have := B3.size; omega)), by omega, by omega⟩
            have HMH := Lib.hid HM
            clear HM
            go_wp2_with (first
              | ((with_reducible refine wpList_value (o := ⟨some 8, .alloc _, _, _, _, _⟩) (by with_unfolding_all rfl) (HA.out _ _ _ _ _ _) ?_))
              | ((with_reducible refine wpList_storeB (o := ⟨none, .store 31 (.tmp 8) (.tmp 33), _, _, _, _⟩) flRow (.tmp 8) (.tmp 33) (by with_unfolding_all rfl) (by with_unfolding_all rfl) (by with_unfolding_all rfl) (by with_unfolding_all rfl) (by with_unfolding_all rfl) bA.out HZ.out.1 HF.out.1 HF.out.2 ?_); intro w4 hb4 hS4; have HM4 := Lib.hid (HMH.out w4 hb4 hS4).out; have q4 := h0.stay HM4.out.2.1; have i4 := q4.index k hlt; have c40 := (q4.fieldN k hlt).1; have c42 := (q4.fieldN k hlt).2.1; have c40' := (q4.fieldN k hlt).2.2; have HC4 := Lib.hid (cellsAt_of hb4 hFC.out); obtain ⟨a4, c4, hr4⟩ := HM4.out.1))
            refine (rcount_calls hr4 fs[k].n).mono ?_
            rintro e w5 ⟨rfl, hR5, hS5⟩
            have hcnt := count_ok fs[k].n hO3
            have hb5 : w5.heap[w3.heap.size]? = some (.cells FC 31 (0, 0)) := (hS5.block _ (by have := HM4.out.2.2.2; omega) (by omega)).trans hb4
            have HC5 := Lib.hid (cellsAt_of hb5 hFC.out)
            have y2 := HC5.out 2 _ rfl
            have f2 : w5.frozen? ⟨w3.heap.size, 2, none⟩ = false := by simp [World.frozen?, hb5]
            have z5 := hS5.size
            obtain ⟨q, hq⟩ : ∃ q, St.count ⟨s3.l, s3.e⟩ fs[k].n = q := ⟨_, rfl⟩
            rw [hq] at hR5 hcnt ⊢
            obtain ⟨n5, s5⟩ := q
            have hR6 : RdAt w1.heap.size w2.heap.size (w5.setCell ⟨w3.heap.size, 2, none⟩ (.int .i64 n5)) w1.heap.size s5 := hR5.save (S := (· ≠ w3.heap.size)) Save.set (by omega) (fun g _ hg => by omega)
            have B6 : Below w.heap.size w (w5.setCell ⟨w3.heap.size, 2, none⟩ (.int .i64 n5)) := (HM4.out.2.1.trans (hS5.below (by have := HM4.out.2.1.size; omega) (fun g hg => by omega))).setCell (p := ⟨w3.heap.size, 2, none⟩) (by have := B3.size; show _ ≤ w3.heap.size; omega) _
            have Z6 : w2.heap.size ≤ (w5.setCell ⟨w3.heap.size, 2, none⟩ (.int .i64 n5)).heap.size := by have := HM4.out.2.2.1; simp; omega
            obtain ⟨a6, c6, hr6⟩ := hR6
            have hr5 := hr6
            clear i4 c40 c42 c40' hr4 hR5 hb5
            go_wp2_with fail
            refine (rerr_calls hr5).mono ?_
            rintro e wz ⟨rfl, rfl⟩
            obtain ⟨l6, e6⟩ := s5
            have ho6 : Hid (OkSt ⟨l6, e6⟩) := hcnt.1
            have he6 : e6 = 0 ∨ e6 = 50 := by
              rcases ho6.out with h | h
              · exact .inl h
              · exact .inr (congrArg St.e h)
            rcases he6 with rfl | rfl
            all_goals
              go_wp2_with fail
              go_roundw
              case rel => exact ⟨k + 1, ⟨l6, _⟩, by omega, by go_num, rfl, ho6, ⟨_, _, hr5⟩, B6, Z6⟩
              case measure => simp [intOf]; omega
          · subst hbr
            go_wp2_with fail
            refine Calls.mono hback ?_
            rintro e w3 ⟨f, s3, HB, rfl, hf3, hnew3, hR3, hS3⟩
            clear hback i0 c00 c02 c00'
            have hO3 := back_st HB.out HO.out
            have hzf := back_broke HB.out
            obtain ⟨rfl, hzf⟩ := hzf
            have HF := Lib.hid (fl_one f hf3.t32)
            obtain ⟨FC, hFC⟩ : ∃ Z, Hid (Z = f.cs.toArray) := ⟨_, rfl⟩
            rw [← hFC.out] at HF ⊢
            have bA := Lib.hid (heap_alloc_new w3 (.cells Z 31))
            have gA : Below w3.heap.size w3 (w3.alloc (.cells Z 31)) := (Below.refl _ _).alloc (Nat.le_refl _) _
            have z3 := hS3.size
            have rlt : w1.heap.size < w3.heap.size := by omega
            have B3 : Below w.heap.size w w3 := B.trans (hS3.below B.size (fun g hg => by omega))
            have HM : ∀ w4, w4.heap[w3.heap.size]? = some (.cells FC 31 (0, 0)) → Save (· ≠ w3.heap.size) (w3.alloc (.cells Z 31)) w4 → Hid (RdAt w1.heap.size w2.heap.size w4 w1.heap.size St.broke ∧ Below w.heap.size w w4 ∧ w2.heap.size ≤ w4.heap.size ∧ w3.heap.size < w4.heap.size) := fun w4 _ hS4 => by
              have z4 := hS4.size
              simp at z4
              exact ⟨(hR3.stay gA).save hS4 (by omega) (fun g _ hg => by omega), (B3.trans (gA.mono B3.size)).trans (hS4.below (by have := B3.size; simp; omega) (fun g hg => by have := B3.size; omega)), by omega, by omega⟩
            have HMH := Lib.hid HM
            clear HM
            go_wp2_with (first
              | ((with_reducible refine wpList_value (o := ⟨some 8, .alloc _, _, _, _, _⟩) (by with_unfolding_all rfl) (HA.out _ _ _ _ _ _) ?_))
              | ((with_reducible refine wpList_storeB (o := ⟨none, .store 31 (.tmp 8) (.tmp 33), _, _, _, _⟩) flRow (.tmp 8) (.tmp 33) (by with_unfolding_all rfl) (by with_unfolding_all rfl) (by with_unfolding_all rfl) (by with_unfolding_all rfl) (by with_unfolding_all rfl) bA.out HZ.out.1 HF.out.1 HF.out.2 ?_); intro w4 hb4 hS4; have HM4 := Lib.hid (HMH.out w4 hb4 hS4).out; have q4 := h0.stay HM4.out.2.1; have i4 := q4.index k hlt; have c40 := (q4.fieldN k hlt).1; have c42 := (q4.fieldN k hlt).2.1; have c40' := (q4.fieldN k hlt).2.2; have HC4 := Lib.hid (cellsAt_of hb4 hFC.out); obtain ⟨a4, c4, hr4⟩ := HM4.out.1))
            refine (rcount_calls hr4 fs[k].n).mono ?_
            rintro e w5 ⟨rfl, hR5, hS5⟩
            have hcnt := count_ok fs[k].n hO3
            have hb5 : w5.heap[w3.heap.size]? = some (.cells FC 31 (0, 0)) := (hS5.block _ (by have := HM4.out.2.2.2; omega) (by omega)).trans hb4
            have HC5 := Lib.hid (cellsAt_of hb5 hFC.out)
            have y2 := HC5.out 2 _ rfl
            have f2 : w5.frozen? ⟨w3.heap.size, 2, none⟩ = false := by simp [World.frozen?, hb5]
            have z5 := hS5.size
            have hcz : St.count ⟨St.broke.l, St.broke.e⟩ fs[k].n = (0, St.broke) := hcnt.2 rfl
            rw [hcz] at hR5 ⊢
            generalize hs5 : St.broke = s5 at hR5
            have hR6 : RdAt w1.heap.size w2.heap.size (w5.setCell ⟨w3.heap.size, 2, none⟩ (.int .i64 0)) w1.heap.size s5 := hR5.save (S := (· ≠ w3.heap.size)) Save.set (by omega) (fun g _ hg => by omega)
            have B6 : Below w.heap.size w (w5.setCell ⟨w3.heap.size, 2, none⟩ (.int .i64 0)) := (HM4.out.2.1.trans (hS5.below (by have := HM4.out.2.1.size; omega) (fun g hg => by omega))).setCell (p := ⟨w3.heap.size, 2, none⟩) (by have := B3.size; show _ ≤ w3.heap.size; omega) _
            have Z6 : w2.heap.size ≤ (w5.setCell ⟨w3.heap.size, 2, none⟩ (.int .i64 0)).heap.size := by have := HM4.out.2.2.1; simp; omega
            obtain ⟨a6, c6, hr6⟩ := hR6
            subst hs5
            have HC6 : Hid (CellsAt (w5.setCell ⟨w3.heap.size, 2, none⟩ (.int .i64 0)) w3.heap.size (f.cs.set 2 (.int .i64 0))) := cellsAt_set HC5.out 2 (.int .i64 0) (by rw [fl_len _ hf3.t32]; decide)
            have hset : f.cs.set 2 (.int .i64 0) = f.cs := by
              have : f.cs = [.int .i64 f.what, vb f.x, .int .i64 0, .bool f.is, .slice f.a f.l.length f.c] ++ f.t.map vb := by rw [← hzf.2.1]; rfl
              rw [this]; rfl
            rw [hset] at HC6
            clear hset
            have x1 : (w5.setCell ⟨w3.heap.size, 2, none⟩ (.int .i64 0)).cell? ⟨w3.heap.size, 1, none⟩ = some (.int .u8 0) := by rw [HC6.out 1 _ rfl, hzf.1]; rfl
            have x2 : (w5.setCell ⟨w3.heap.size, 2, none⟩ (.int .i64 0)).cell? ⟨w3.heap.size, 2, none⟩ = some (.int .i64 0) := by rw [HC6.out 2 _ rfl, hzf.2.1]
            have x3 : (w5.setCell ⟨w3.heap.size, 2, none⟩ (.int .i64 0)).cell? ⟨w3.heap.size, 3, none⟩ = some (.bool false) := by rw [HC6.out 3 _ rfl, hzf.2.2.1]
            have x4 : (w5.setCell ⟨w3.heap.size, 2, none⟩ (.int .i64 0)).cell? ⟨w3.heap.size, 4, none⟩ = some (.slice f.a 0 f.c) := by rw [HC6.out 4 _ rfl, hzf.2.2.2.1]; rfl
            have XT := Lib.hid (tagLoad HC6.out hzf.2.2.2.2)
            have hr5 : Rd _ _ _ _ _ [] _ 50 := hr6
            clear i4 c40 c42 c40' hr4 hR5 hb5
            go_wp2_with fail
            refine Calls.mono (R := fun r w' => r = .returned (.int .i64 50) ∧ _ = w') (rerr_calls hr5) ?_
            rintro e wz ⟨rfl, rfl⟩
            go_wp2_with fail
            refine Calls.mono (R := fun r w' => r = .returned (.int .i64 50) ∧ _ = w') (rend_calls hr5) ?_
            rintro e wz ⟨rfl, rfl⟩
            go_wp2_with fail
            refine Calls.mono (R := fun r w' => r = .returned (.int .i64 0) ∧ _ = w') (rleft_calls hr5) ?_
            rintro e wz ⟨rfl, rfl⟩
            go_wp2_with (first
              | ((with_reducible refine wpList_load_gd (o := ⟨some 96, .load 29 (.tmp 95), _, _, _, _⟩) (by with_unfolding_all rfl) (by with_unfolding_all rfl) (by with_unfolding_all rfl) XT.out ?_))
              | ((with_reducible refine wpList_value_g (o := ⟨some 97, .build _ _, _, _, _, _⟩) (by with_unfolding_all rfl) (build_tag _ _ _ _ _) ?_))
              | ((with_reducible refine wpList_value_g (o := ⟨some 98, .binOp _ _ _ _ _, _, _, _, _⟩) (by with_unfolding_all rfl) (neq_tag_run _ _ _ _ _ _ _ (by with_unfolding_all rfl) (by with_unfolding_all rfl)) ?_)))
            refine Calls.mono (R := fun r w' => r = .returned (.int .i64 50) ∧ _ = w') (rerr_calls hr5) ?_
            rintro e wz ⟨rfl, rfl⟩
            go_wp2_with fail
            go_roundw
            case rel => exact ⟨k + 1, St.broke, by omega, by go_num, rfl, .inr rfl, ⟨_, _, hr5⟩, B6, Z6⟩
            case measure => simp [intOf]; omega
      · have w0 : decide (fs[k].what < 0) = false := by simp; omega
        have w5 : decide (5 < fs[k].what) = false := by simp; omega
        clear hw
        rcases HO.out with he | hbr
        · obtain ⟨sl, se⟩ := s
          have he : se = 0 := he
          subst he
          go_wp2_with fail
          refine Calls.mono hback ?_
          rintro e w3 ⟨f, s3, HB, rfl, hf3, hnew3, hR3, hS3⟩
          clear hback i0 c00 c02 c00'
          have hO3 := back_st HB.out HO.out
          have HF := Lib.hid (fl_one f hf3.t32)
          obtain ⟨FC, hFC⟩ : ∃ Z, Hid (Z = f.cs.toArray) := ⟨_, rfl⟩
          rw [← hFC.out] at HF ⊢
          have bA := Lib.hid (heap_alloc_new w3 (.cells Z 31))
          have gA : Below w3.heap.size w3 (w3.alloc (.cells Z 31)) := (Below.refl _ _).alloc (Nat.le_refl _) _
          have z3 := hS3.size
          have rlt : w1.heap.size < w3.heap.size := by omega
          have B3 : Below w.heap.size w w3 := B.trans (hS3.below B.size (fun g hg => by omega))
          have HM : ∀ w4, w4.heap[w3.heap.size]? = some (.cells FC 31 (0, 0)) → Save (· ≠ w3.heap.size) (w3.alloc (.cells Z 31)) w4 → Hid (RdAt w1.heap.size w2.heap.size w4 w1.heap.size s3 ∧ Below w.heap.size w w4 ∧ w2.heap.size ≤ w4.heap.size ∧ w3.heap.size < w4.heap.size) := fun w4 _ hS4 => by
            have z4 := hS4.size
            simp at z4
            exact ⟨(hR3.stay gA).save hS4 (by omega) (fun g _ hg => by omega), (B3.trans (gA.mono B3.size)).trans (hS4.below (by have := B3.size; simp; omega) (fun g hg => by have := B3.size; omega)), by omega, by omega⟩
          have HMH := Lib.hid HM
          clear HM
          go_wp2_with (first
            | ((with_reducible refine wpList_value (o := ⟨some 8, .alloc _, _, _, _, _⟩) (by with_unfolding_all rfl) (HA.out _ _ _ _ _ _) ?_))
            | ((with_reducible refine wpList_storeB (o := ⟨none, .store 31 (.tmp 8) (.tmp 33), _, _, _, _⟩) flRow (.tmp 8) (.tmp 33) (by with_unfolding_all rfl) (by with_unfolding_all rfl) (by with_unfolding_all rfl) (by with_unfolding_all rfl) (by with_unfolding_all rfl) bA.out HZ.out.1 HF.out.1 HF.out.2 ?_); intro w4 hb4 hS4; have HM4 := Lib.hid (HMH.out w4 hb4 hS4).out; have q4 := h0.stay HM4.out.2.1; have i4 := q4.index k hlt; have c40 := (q4.fieldN k hlt).1; have c42 := (q4.fieldN k hlt).2.1; have c40' := (q4.fieldN k hlt).2.2; have HC4 := Lib.hid (cellsAt_of hb4 hFC.out); obtain ⟨a4, c4, hr4⟩ := HM4.out.1))
          have hr5 := hr4
          refine (rerr_calls hr5).mono ?_
          rintro e wz ⟨rfl, rfl⟩
          obtain ⟨l6, e6⟩ := s3
          have ho6 : Hid (OkSt ⟨l6, e6⟩) := hO3
          have he6 : e6 = 0 ∨ e6 = 50 := by
            rcases ho6.out with h | h
            · exact .inl h
            · exact .inr (congrArg St.e h)
          rcases he6 with rfl | rfl
          all_goals
            go_wp2_with fail
            go_roundw
            case rel => exact ⟨k + 1, ⟨l6, _⟩, by omega, by go_num, rfl, ho6, ⟨_, _, hr5⟩, HM4.out.2.1, HM4.out.2.2.1⟩
            case measure => simp [intOf]; omega
        · subst hbr
          go_wp2_with fail
          refine Calls.mono hback ?_
          rintro e w3 ⟨f, s3, HB, rfl, hf3, hnew3, hR3, hS3⟩
          clear hback i0 c00 c02 c00'
          have hO3 := back_st HB.out HO.out
          have hzf := back_broke HB.out
          obtain ⟨rfl, hzf⟩ := hzf
          have HF := Lib.hid (fl_one f hf3.t32)
          obtain ⟨FC, hFC⟩ : ∃ Z, Hid (Z = f.cs.toArray) := ⟨_, rfl⟩
          rw [← hFC.out] at HF ⊢
          have bA := Lib.hid (heap_alloc_new w3 (.cells Z 31))
          have gA : Below w3.heap.size w3 (w3.alloc (.cells Z 31)) := (Below.refl _ _).alloc (Nat.le_refl _) _
          have z3 := hS3.size
          have rlt : w1.heap.size < w3.heap.size := by omega
          have B3 : Below w.heap.size w w3 := B.trans (hS3.below B.size (fun g hg => by omega))
          have HM : ∀ w4, w4.heap[w3.heap.size]? = some (.cells FC 31 (0, 0)) → Save (· ≠ w3.heap.size) (w3.alloc (.cells Z 31)) w4 → Hid (RdAt w1.heap.size w2.heap.size w4 w1.heap.size St.broke ∧ Below w.heap.size w w4 ∧ w2.heap.size ≤ w4.heap.size ∧ w3.heap.size < w4.heap.size) := fun w4 _ hS4 => by
            have z4 := hS4.size
            simp at z4
            exact ⟨(hR3.stay gA).save hS4 (by omega) (fun g _ hg => by omega), (B3.trans (gA.mono B3.size)).trans (hS4.below (by have := B3.size; simp; omega) (fun g hg => by have := B3.size; omega)), by omega, by omega⟩
          have HMH := Lib.hid HM
          clear HM
          go_wp2_with (first
            | ((with_reducible refine wpList_value (o := ⟨some 8, .alloc _, _, _, _, _⟩) (by with_unfolding_all rfl) (HA.out _ _ _ _ _ _) ?_))
            | ((with_reducible refine wpList_storeB (o := ⟨none, .store 31 (.tmp 8) (.tmp 33), _, _, _, _⟩) flRow (.tmp 8) (.tmp 33) (by with_unfolding_all rfl) (by with_unfolding_all rfl) (by with_unfolding_all rfl) (by with_unfolding_all rfl) (by with_unfolding_all rfl) bA.out HZ.out.1 HF.out.1 HF.out.2 ?_); intro w4 hb4 hS4; have HM4 := Lib.hid (HMH.out w4 hb4 hS4).out; have q4 := h0.stay HM4.out.2.1; have i4 := q4.index k hlt; have c40 := (q4.fieldN k hlt).1; have c42 := (q4.fieldN k hlt).2.1; have c40' := (q4.fieldN k hlt).2.2; have HC4 := Lib.hid (cellsAt_of hb4 hFC.out); obtain ⟨a4, c4, hr4⟩ := HM4.out.1; have x1 : w4.cell? ⟨w3.heap.size, 1, none⟩ = some (.int .u8 0) := (by rw [HC4.out 1 _ rfl, hzf.1]; rfl); have x2 : w4.cell? ⟨w3.heap.size, 2, none⟩ = some (.int .i64 0) := (by rw [HC4.out 2 _ rfl, hzf.2.1]); have x3 : w4.cell? ⟨w3.heap.size, 3, none⟩ = some (.bool false) := (by rw [HC4.out 3 _ rfl, hzf.2.2.1]); have x4 : w4.cell? ⟨w3.heap.size, 4, none⟩ = some (.slice f.a 0 f.c) := (by rw [HC4.out 4 _ rfl, hzf.2.2.2.1]; rfl); have XT := Lib.hid (tagLoad HC4.out hzf.2.2.2.2); have hr5 : Rd _ _ _ _ _ [] _ 50 := hr4))
          refine Calls.mono (R := fun r w' => r = .returned (.int .i64 50) ∧ _ = w') (rerr_calls hr5) ?_
          rintro e wz ⟨rfl, rfl⟩
          go_wp2_with fail
          refine Calls.mono (R := fun r w' => r = .returned (.int .i64 50) ∧ _ = w') (rend_calls hr5) ?_
          rintro e wz ⟨rfl, rfl⟩
          go_wp2_with fail
          refine Calls.mono (R := fun r w' => r = .returned (.int .i64 0) ∧ _ = w') (rleft_calls hr5) ?_
          rintro e wz ⟨rfl, rfl⟩
          go_wp2_with (first
            | ((with_reducible refine wpList_load_gd (o := ⟨some 96, .load 29 (.tmp 95), _, _, _, _⟩) (by with_unfolding_all rfl) (by with_unfolding_all rfl) (by with_unfolding_all rfl) XT.out ?_))
            | ((with_reducible refine wpList_value_g (o := ⟨some 97, .build _ _, _, _, _, _⟩) (by with_unfolding_all rfl) (build_tag _ _ _ _ _) ?_))
            | ((with_reducible refine wpList_value_g (o := ⟨some 98, .binOp _ _ _ _ _, _, _, _, _⟩) (by with_unfolding_all rfl) (neq_tag_run _ _ _ _ _ _ _ (by with_unfolding_all rfl) (by with_unfolding_all rfl)) ?_)))
          refine Calls.mono (R := fun r w' => r = .returned (.int .i64 50) ∧ _ = w') (rerr_calls hr5) ?_
          rintro e wz ⟨rfl, rfl⟩
          go_wp2_with fail
          go_roundw
          case rel => exact ⟨k + 1, St.broke, by omega, by go_num, rfl, .inr rfl, HM4.out.1, HM4.out.2.1, HM4.out.2.2.1⟩
          case measure => simp [intOf]; omega
    · go_wp2_with fail
      go_ret
      exact ⟨rfl, B⟩
end Go.Proofs.Ytglmijcfdcajkaa
