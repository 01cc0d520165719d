/- WireOneWay: fields that were taken of any bytes, till one breaks the reader, added, are the bytes that they were taken of. The walk of the law. -/
import Derived.Test.YtglmijcfdcajkaaLawWireBroken
import Derived.Deep.AppendLies
namespace Go.Proofs.Ytglmijcfdcajkaa
open Go Go.RowKit Go.Cit

/-- A slice of ints. -/
structure Ints (w : World) (a : Option Addr) (zs : List Int) (cap : Nat) : Prop where
  le : zs.length ≤ cap
  top : cap ≤ maxLen
  spot : zs ≠ [] → ∃ b off, a = some ⟨b, off, none⟩
  cell : ∀ i (h : i < zs.length), w.cell? (ad a i) = some (.int .i64 zs[i])
  rng : ∀ i (h : i < zs.length), -9223372036854775808 ≤ zs[i] ∧ zs[i] ≤ 9223372036854775807
theorem ints_of {w : World} {d : Sl Int} (h : (Sh.slice .i64).ok w d) : Ints w d.a d.l d.c := by
  obtain ⟨h1, h2, h3, h4, h5⟩ := h
  refine ⟨h1, by unfold maxLen; omega, h4, fun i hi => ?_, fun i hi => (h5 i hi).2⟩
  have := (h5 i hi).1 0 (by decide)
  simpa [Sh.size, Sh.enc] using this
theorem Ints.len_le {w a zs cap} (h : Ints w a zs cap) : zs.length ≤ 9223372036854775807 := by
  have h1 := h.le; have h2 := h.top; unfold maxLen at h2; omega
theorem Ints.stay {w w' : World} {a zs cap} (h : Ints w a zs cap) (hb : Below w.heap.size w w') : Ints w' a zs cap :=
  ⟨h.le, h.top, h.spot, fun i hi => (hb.cell (World.block_lt_of_cell? w _ (h.cell i hi))).trans (h.cell i hi), h.rng⟩
theorem szI : ∀ w, (sizeOf 3).run Try.prog w = .ok 1 w := by intro w; kernel_rfl
theorem Ints.index {w a zs cap} (h : Ints w a zs cap) (i : Nat) (hi : i < zs.length) :
    ∀ w, (Instr.indexAt 71 (.slice a zs.length cap) (.int .i64 (i : Int))).run Try.prog w = .ok (.pointer (some (ad a i))) w := by
  intro w
  obtain ⟨b, off, rfl⟩ := h.spot (by intro h0; simp [h0] at hi)
  have hT : Try.prog.underlying 71 = some (.slice 3) := Try.underlying71
  have he : Try.prog.elem 71 = 3 := by simp [Program.elem, hT]
  rw [run_indexAt_slice w _ _ _ _ _ _ (by rw [he]; exact hT), if_pos (by omega), he, szI]
  simp only [Result.andThen, ad, Addr.add]
  by_cases h0 : i = 0
  · subst h0; simp
  · simp [h0]

/-- Fields that the call holds in a slice of its own. -/
structure Held (B : Nat) (w : World) (v : Value) (fs : List Fl) : Prop where
  row : w.ownsRow B 31 37 v fs.length (fs.flatMap Fl.cs)
  fld : ∀ f ∈ fs, f.At w
  off : ∀ f ∈ fs, f.l ≠ [] → ∀ g, Go.Cit.blk f.a = some g → v.ownBlock ≠ some g ∧ B ≤ g
theorem At.save {S : Nat → Prop} {w w' : World} {f : Fl} (h : f.At w) (hs : Save S w w') (hf : f.l ≠ [] → ∀ g, Go.Cit.blk f.a = some g → S g) : f.At w' := ⟨h.row.save' hs hf, h.t32, h.hn, h.hw, h.lr⟩
theorem Held.save {S : Nat → Prop} {B : Nat} {w w' : World} {v : Value} {fs : List Fl} (h : Held B w v fs) (hs : Save S w w') (hS : ∀ g, B ≤ g → g < w.heap.size → S g) : Held B w' v fs := by
  refine ⟨?_, fun f hf => At.save (h.fld f hf) hs (fun hne g hg => hS g ((h.off f hf hne g hg).2) ?_), h.off⟩
  · refine ⟨h.row.1, ?_⟩
    rcases h.row.2 with hn | ⟨g, c, cur, hv, hb, hg, rest⟩
    · exact .inl hn
    · have hlt := (Array.getElem?_eq_some_iff.1 hg).1
      exact .inr ⟨g, c, cur, hv, hb, (hs.block g hlt (hS g hb hlt)).trans hg, rest⟩
  · have h1 := (h.fld f hf).row
    obtain ⟨b, o, e⟩ := h1.spot hne
    have := h1.blk (i := 0) (List.length_pos_iff.2 hne)
    rw [e] at hg this
    simp [Go.Cit.blk] at hg
    simp [ad] at this
    omega
theorem flat_get : ∀ (fs : List Fl) (i j : Nat) (h : i < fs.length), (∀ f ∈ fs, f.t.length = 32) → j < 37 → (fs.flatMap Fl.cs)[i * 37 + j]? = fs[i].cs[j]?
  | [], i, j, h, _, _ => by simp at h
  | f :: fs, 0, j, h, h32, hj => by
    have hl := fl_len f (h32 f (by simp))
    rw [List.flatMap_cons, List.getElem?_append_left (by omega)]
    simp
  | f :: fs, i + 1, j, h, h32, hj => by
    have hl := fl_len f (h32 f (by simp))
    rw [List.flatMap_cons, List.getElem?_append_right (by omega), show (i + 1) * 37 + j - f.cs.length = i * 37 + j by omega, flat_get fs i j (by simpa using h) (fun g hg => h32 g (by simp [hg])) hj]
    rfl
theorem Held.flds {B : Nat} {w : World} {v : Value} {fs : List Fl} (h : Held B w v fs) : ∃ a c, v = .slice a fs.length c ∧ Flds w a fs c := by
  rcases h.row.2 with ⟨rfl, h0⟩ | ⟨g, c, cur, rfl, hb, hg, hle, htop, hsz, htk⟩
  · obtain rfl : fs = [] := List.eq_nil_of_length_eq_zero h0
    exact ⟨none, 0, rfl, ⟨Nat.le_refl _, Nat.zero_le _, fun h => absurd rfl h, fun i hi => by simp at hi, fun i hi => by simp at hi⟩⟩
  · refine ⟨_, _, rfl, hle, htop, fun _ => ⟨_, _, rfl⟩, fun i hi j hj => ?_, fun i hi => h.fld _ (List.getElem_mem hi)⟩
    have h1 := flat_get fs i j hi (fun f hf => (h.fld f hf).t32) hj
    rw [← h1]
    have hlt : i * 37 + j < (fs.flatMap Fl.cs).length := by rw [h.row.1]; have : (i + 1) * 37 ≤ fs.length * 37 := Nat.mul_le_mul_right _ hi; omega
    have := h.row.cells (g := g) rfl (i * 37 + j) _ (List.getElem?_eq_getElem hlt)
    have ea : (⟨g, 0, none⟩ : Addr).add (i * 37 + j) = ad (some ⟨g, 0, none⟩) (i * 37 + j) := by unfold Addr.add ad; split <;> simp_all
    rw [← ea, this, List.getElem?_eq_getElem hlt]
theorem Held.more {B : Nat} {w w' : World} {v : Value} {fs : List Fl} {f : Fl} {g cap : Nat} (h : Held B w v fs) (hf : f.At w) (hb : B ≤ w.heap.size) (hn : f.l ≠ [] → ∀ k, Go.Cit.blk f.a = some k → v.ownBlock ≠ some k ∧ B ≤ k)
    (hrow : w'.ownsRow B 31 37 (.slice (some ⟨g, 0, none⟩) (fs.length + 1) cap) (fs.length + 1) (fs.flatMap Fl.cs ++ f.cs)) (hg : w.grownBy w' v.ownBlock) (hl : v.ownBlock = some g ∨ g = w.heap.size) :
    Held B w' (.slice (some ⟨g, 0, none⟩) (fs ++ [f]).length cap) (fs ++ [f]) := by
  have hall : ∀ y ∈ fs ++ [f], y.At w ∧ (y.l ≠ [] → ∀ k, Go.Cit.blk y.a = some k → v.ownBlock ≠ some k ∧ B ≤ k) := by
    intro y hy
    rcases List.mem_append.1 hy with hy | hy
    · exact ⟨h.fld y hy, h.off y hy⟩
    · obtain rfl : y = f := by simpa using hy
      exact ⟨hf, hn⟩
  have hs : Save (fun k => some k ≠ v.ownBlock) w w' := Save.grown hg
  refine ⟨?_, fun y hy => At.save (hall y hy).1 hs (fun hne k hk e => ((hall y hy).2 hne k hk).1 e.symm), fun y hy hne k hk => ⟨fun e => ?_, ((hall y hy).2 hne k hk).2⟩⟩
  · rw [List.length_append, List.flatMap_append]
    simpa using hrow
  · simp [Value.ownBlock] at e
    subst e
    rcases hl with hl | hl
    · exact ((hall y hy).2 hne g hk).1 hl
    · have h1 := (hall y hy).1.row
      obtain ⟨b, o, e⟩ := h1.spot hne
      have := h1.blk (i := 0) (List.length_pos_iff.2 hne)
      rw [e] at hk this
      simp [Go.Cit.blk] at hk
      simp [ad] at this
      omega

theorem infoFl : (Try.prog.info? 31).map (fun i => (i.zero, i.size, i.bytes)) = some (some (.agg (Fl0 0).cs.toArray), 37, 88) := by kernel_rfl
theorem eql_zero {x y : Operand} (w : World) : (do eqGuard .eql 29 x y (.agg (zeros32.map vb).toArray) (.agg (zeros32.map vb).toArray); binOp .eql 29 (.agg (zeros32.map vb).toArray) (.agg (zeros32.map vb).toArray) : Sem Value).run Try.prog w = .ok (.bool true) w := by
  kernel_rfl
theorem eql_tag_run (ρ : Operand → Value) (d : Option Tmp) (ty : TypeId) (ps : String) {af gd} (x y : Operand) (w : World) (hx : ρ x = .agg (zeros32.map vb).toArray) (hy : ρ y = .agg (zeros32.map vb).toArray) :
    (execOp ρ { dst := d, op := Op.binOp .eql 29 x y 29, type := ty, pos := ps, after := af, guard := gd }).run Try.prog w = .ok (.value (.bool true)) w := by
  have := eql_zero (x := x) (y := y) w
  unfold execOp; dsimp only; rw [hx, hy]
  generalize (do eqGuard .eql 29 x y (.agg (zeros32.map vb).toArray) (.agg (zeros32.map vb).toArray); binOp .eql 29 (.agg (zeros32.map vb).toArray) (.agg (zeros32.map vb).toArray) : Sem Value) = s at this
  rw [Sem.run_bind, this]; rfl

theorem allB_snoc (fs : List Fl) (f : Fl) : allB (fs ++ [f]) = allB fs ++ f.bytes := by simp [allB]
theorem totN_snoc (fs : List Fl) (f : Fl) : totN (fs ++ [f]) = totN fs + (40 + f.l.length) := by simp [totN]

theorem totN_ge : ∀ fs : List Fl, 40 * fs.length ≤ totN fs
  | [] => by simp
  | f :: fs => by
    have := totN_ge fs
    have e : totN (f :: fs) = (40 + f.l.length) + totN fs := by simp [totN]
    rw [e, List.length_cons]; omega

set_option maxRecDepth 100000 in
set_option maxHeartbeats 8000000 in
theorem wireOneWay_law (w : World) (a1 : Option Addr) (l : List UInt8) (c1 : Nat) (a0 : Option Addr) (ks : List Int) (c0 : Nat) (h1 : Row w a1 l c1) (h0 : Ints w a0 ks c0) :
    Calls Try.prog 10 #[.slice a1 l.length c1, .slice a0 ks.length c0] w fun e w' => e = .returned (.bool true) ∧ Below w.heap.size w w' := by
  have hlen := h0.len_le
  by_cases hl : 600 < l.length
  · go_enter Try.func10, Try.ntmps10
    go_wp2_with fail
    refine (wireAwake_calls _).mono ?_
    rintro e w1 ⟨rfl, hb1⟩
    go_wp2_with fail
    go_ret
    exact ⟨rfl, hb1⟩
  by_cases hf : 60 < ks.length
  · go_enter Try.func10, Try.ntmps10
    go_wp2_with fail
    refine (wireAwake_calls _).mono ?_
    rintro e w1 ⟨rfl, hb1⟩
    go_wp2_with fail
    go_ret
    exact ⟨rfl, hb1⟩
  go_enter Try.func10, Try.ntmps10
  go_wp2_with fail
  refine (wireAwake_calls _).mono ?_
  rintro e w1 ⟨rfl, hb1⟩
  have r1 := h1.stay hb1
  go_wp2_with fail
  refine (newreader_calls _ r1).mono ?_
  rintro e w2 ⟨rfl, hR, hb2⟩
  have hnew : St.new l = ⟨l, 0⟩ := by rw [St.new, if_pos (by omega)]
  rw [hnew] at hR
  have z1 := hb1.size
  have z2 : w1.heap.size < w2.heap.size := by obtain ⟨a, c, hr⟩ := hR; exact hr.lt
  have B2 := hb1.trans (hb2.mono z1)
  have HL6 : Hid (l.length ≤ 600 ∧ ks.length ≤ 60) := ⟨by omega, by omega⟩
  clear hb1 hb2 hnew r1
  go_wp2_with fail
  go_loopw [6, 7] (fun v i wx => ∃ (k : Nat) (sl : List UInt8) (gfs : List Fl), k ≤ ks.length ∧ i = .int .i64 k ∧ Hid (l = allB gfs ++ sl ∧ totN gfs + sl.length ≤ 40 * k + l.length) ∧ Held w2.heap.size wx v gfs ∧ RdAt w1.heap.size w2.heap.size wx w1.heap.size ⟨sl, 0⟩ ∧ Below w.heap.size w wx ∧ w2.heap.size ≤ wx.heap.size) (fun _ i _ => ks.length - (intOf i).toNat)
  case atStart => exact ⟨0, l, [], Nat.zero_le _, rfl, ⟨rfl, by simp [totN]⟩, ⟨World.ownsRow_nil _ _ _ _, fun f hf => by simp at hf, fun f hf => by simp at hf⟩, hR, B2, Nat.le_refl _⟩
  case round =>
    clear hR B2
    obtain ⟨k, sl, gfs, hk, rfl, HS, hH, hR, B, hz⟩ := hrel
    by_cases hlt : k < ks.length
    · obtain ⟨a, c, hr⟩ := hR
      have q0 := h0.stay B
      have i0 := q0.index k hlt
      have c00 := q0.cell k hlt
      have hkr := q0.rng k hlt
      by_cases hw : ks[k] < 0 ∨ 5 < ks[k]
      · have hwc : (decide (ks[k] < 0) = true) ∨ (decide (ks[k] < 0) = false ∧ decide (5 < ks[k]) = true) := by
          by_cases h : ks[k] < 0
          · exact .inl (by simpa using h)
          · exact .inr ⟨by simpa using h, by simp; omega⟩
        clear hw
        rcases hwc with w0 | ⟨w0, w5⟩
        all_goals
          go_wp2_with fail
          go_ret
          exact ⟨rfl, B⟩
      · have w0 : decide (ks[k] < 0) = false := by simp; omega
        have w5 : decide (5 < ks[k]) = false := by simp; omega
        have hk05 : Hid (0 ≤ ks[k] ∧ ks[k] ≤ 5) := by rw [Hid]; omega
        have hback := back_calls hr ks[k] hkr hz
        clear hw hkr
        have HLv := rleft_calls hr
        have HA := Lib.hid (fun ρ d ty ps af w => alloc_fl ρ d ty ps (af := af) w)
        have HZ := Lib.hid (fl_one (Fl0 0) rfl)
        obtain ⟨Z, hZ⟩ : ∃ Z, Hid (Z = (Fl0 0).cs.toArray) := ⟨_, rfl⟩
        rw [← hZ.out] at HA HZ
        go_wp2_with fail
        refine HLv.mono ?_
        rintro e wz ⟨rfl, rfl⟩
        clear HLv
        have hlv : (St.left ⟨sl, 0⟩ : Int) = (sl.length : Int) := by rw [St.left, if_pos rfl]
        rw [hlv]
        clear hlv
        go_wp2_with fail
        refine Calls.mono hback ?_
        rintro e w3 ⟨f, s3, HB, rfl, hf3, hnew3, hR3, hS3⟩
        clear hback i0 c00
        have HF := Lib.hid (fl_one f hf3.t32)
        obtain ⟨FC, hFC⟩ : ∃ Z, Hid (Z = f.cs.toArray) := ⟨_, rfl⟩
        rw [← hFC.out] at HF ⊢
        have bA := Lib.hid (heap_alloc_new w3 (.cells Z 31))
        have gA : Below w3.heap.size w3 (w3.alloc (.cells Z 31)) := (Below.refl _ _).alloc (Nat.le_refl _) _
        have z3 := hS3.size
        have rlt : w1.heap.size < w3.heap.size := by omega
        have B3 : Below w.heap.size w w3 := B.trans (hS3.below B.size (fun g hg => by omega))
        have H3 : Held w2.heap.size w3 (u6) gfs := hH.save hS3 (fun g hg _ => by omega)
        have hnew4 : f.l ≠ [] → ∀ g, Go.Cit.blk f.a = some g → (u6).ownBlock ≠ some g ∧ w2.heap.size ≤ g := fun hne g hg => ⟨fun e => by have := (hH.row.lt g e).2; have := hnew3 hne g hg; omega, by have := hnew3 hne g hg; omega⟩
        rcases back_ok HB.out rfl with ⟨hbr, hzf⟩ | ⟨he3, hok⟩
        · subst hbr
          go_wp2_with (first
            | ((with_reducible refine wpList_value (o := ⟨some 9, .alloc _, _, _, _, _⟩) (by with_unfolding_all rfl) (HA.out _ _ _ _ _ _) ?_))
            | ((with_reducible refine wpList_storeB (o := ⟨none, .store 31 (.tmp 9) (.tmp 49), _, _, _, _⟩) flRow (.tmp 9) (.tmp 49) (by with_unfolding_all rfl) (by with_unfolding_all rfl) (by with_unfolding_all rfl) (by with_unfolding_all rfl) (by with_unfolding_all rfl) bA.out HZ.out.1 HF.out.1 HF.out.2 ?_); intro w4 hb4 hS4))
          have HC4 := Lib.hid (cellsAt_of hb4 hFC.out)
          have x1 : w4.cell? ⟨w3.heap.size, 1, none⟩ = some (.int .u8 0) := by rw [HC4.out 1 _ rfl, hzf.1]; rfl
          have x2 : w4.cell? ⟨w3.heap.size, 2, none⟩ = some (.int .i64 0) := by rw [HC4.out 2 _ rfl, hzf.2.1]
          have x3 : w4.cell? ⟨w3.heap.size, 3, none⟩ = some (.bool false) := by rw [HC4.out 3 _ rfl, hzf.2.2.1]
          have x4 : w4.cell? ⟨w3.heap.size, 4, none⟩ = some (.slice f.a 0 f.c) := by rw [HC4.out 4 _ rfl, hzf.2.2.2.1]; rfl
          have XT := Lib.hid (tagLoad HC4.out hzf.2.2.2.2)
          have z4 := hS4.size
          simp at z4
          have B4 : Below w.heap.size w w4 := (B3.trans (gA.mono B3.size)).trans (hS4.below (by have := B3.size; simp; omega) (fun g hg => by have := B3.size; omega))
          have hR4 : RdAt w1.heap.size w2.heap.size w4 w1.heap.size St.broke := (hR3.stay gA).save hS4 (by omega) (fun g _ hg => by omega)
          obtain ⟨a4, c4, hr4⟩ := hR4
          have hr5 : Rd w1.heap.size w2.heap.size w4 w1.heap.size a4 [] c4 50 := hr4
          refine Calls.mono (R := fun r w' => r = .returned (.int .i64 50) ∧ _ = w') (rerr_calls hr5) ?_
          rintro e wz ⟨rfl, rfl⟩
          go_wp2_with fail
          refine Calls.mono (R := fun r w' => r = .returned (.int .i64 0) ∧ _ = w') (rleft_calls hr5) ?_
          rintro e wz ⟨rfl, rfl⟩
          go_wp2_with (first
            | ((with_reducible refine wpList_load_gd (o := ⟨some 79, .load 29 (.tmp 78), _, _, _, _⟩) (by with_unfolding_all rfl) (by with_unfolding_all rfl) (by with_unfolding_all rfl) XT.out ?_))
            | ((with_reducible refine wpList_value_g (o := ⟨some 80, .build _ _, _, _, _, _⟩) (by with_unfolding_all rfl) (build_tag _ _ _ _ _) ?_))
            | ((with_reducible refine wpList_value_g (o := ⟨some 81, .binOp _ _ _ _ _, _, _, _, _⟩) (by with_unfolding_all rfl) (eql_tag_run _ _ _ _ _ _ _ (by with_unfolding_all rfl) (by with_unfolding_all rfl)) ?_)))
          go_ret
          exact ⟨rfl, B4⟩
        · obtain ⟨l3, e3⟩ := s3
          have he3 : e3 = 0 := he3
          subst he3
          have hok := hok hk05.out.1 hk05.out.2
          have HK := Lib.hid hok
          obtain ⟨i0, hi, hz0, hz1, hz2⟩ := info_parts infoFl
          obtain ⟨va, vc, hv, hfl⟩ := hH.flds
          subst hv
          have hkb : gfs.length ≤ 100 := by
            have h1 := totN_len gfs
            have h2 := HS.out.2
            have h3 := HL6.out
            have := totN_ge gfs
            omega
          clear hok hfl
          go_wp2_with (first
            | ((with_reducible refine wpList_value (o := ⟨some 9, .alloc _, _, _, _, _⟩) (by with_unfolding_all rfl) (HA.out _ _ _ _ _ _) ?_))
            | ((with_reducible refine wpList_storeB (o := ⟨none, .store 31 (.tmp 9) (.tmp 49), _, _, _, _⟩) flRow (.tmp 9) (.tmp 49) (by with_unfolding_all rfl) (by with_unfolding_all rfl) (by with_unfolding_all rfl) (by with_unfolding_all rfl) (by with_unfolding_all rfl) bA.out HZ.out.1 HF.out.1 HF.out.2 ?_); intro w4 hb4 hS4))
          have z4 := hS4.size
          simp at z4
          have B4 : Below w.heap.size w w4 := (B3.trans (gA.mono B3.size)).trans (hS4.below (by have := B3.size; simp; omega) (fun g hg => by have := B3.size; omega))
          have hR4 : RdAt w1.heap.size w2.heap.size w4 w1.heap.size ⟨l3, 0⟩ := (hR3.stay gA).save hS4 (by omega) (fun g _ hg => by omega)
          have H4 : Held w2.heap.size w4 (.slice va gfs.length vc) gfs := by
            have h3 : Held w2.heap.size w4 (.slice va gfs.length vc) gfs := by
              refine ⟨?_, fun y hy => ?_, H3.off⟩
              · have := (H3.row.alloc (.cells Z 31))
                refine ⟨this.1, ?_⟩
                rcases this.2 with hn | ⟨g, c, cur, hv, hb, hg, rest⟩
                · exact .inl hn
                · have hlt := (H3.row.lt g (by rw [hv]; rfl)).2
                  exact .inr ⟨g, c, cur, hv, hb, (hS4.block g (Array.getElem?_eq_some_iff.1 hg).1 (by omega)).trans hg, rest⟩
              · have hy3 := H3.fld y hy
                refine At.save (hy3.stay gA) hS4 (fun hne g hg => ?_)
                obtain ⟨b, o, e⟩ := hy3.row.spot hne
                have := hy3.row.blk (i := 0) (List.length_pos_iff.2 hne)
                rw [e] at hg this
                simp [Go.Cit.blk] at hg
                simp [ad] at this
                omega
            exact h3
          have hf4 : f.At w4 := At.save (hf3.stay gA) hS4 (fun hne g hg => by
            obtain ⟨b, o, e⟩ := hf3.row.spot hne
            have := hf3.row.blk (i := 0) (List.length_pos_iff.2 hne)
            rw [e] at hg this
            simp [Go.Cit.blk] at hg
            simp [ad] at this
            omega)
          have hb5 : Below w4.heap.size w4 (w4.alloc (.cells FC 31)) := (Below.refl _ _).alloc (Nat.le_refl _) _
          have H5 : Held w2.heap.size (w4.alloc (.cells FC 31)) (.slice va gfs.length vc) gfs := H4.save (S := fun _ => True) (Save.of hb5) (fun _ _ _ => trivial)
          have hf5 := hf4.stay hb5
          have HZ5 : Hid (w2.heap.size ≤ (w4.alloc (.cells FC 31)).heap.size) := by have := hb5.size; rw [Hid]; omega
          have HLD : Hid ((Instr.loadAt 31 (.pointer (some ⟨w3.heap.size, 0, none⟩))).run Try.prog w4 = .ok (.agg FC) w4) := by
            have := load_cells (cellsAt_of hb4 hFC.out) (fl_len _ hf3.t32)
            rw [← hFC.out] at this; exact this
          have HN5 : Hid (∀ j u, f.cs[j]? = some u → (w4.alloc (.cells FC 31)).cell? ((⟨w4.heap.size, 0, none⟩ : Addr).add j) = some u) := by
            intro j u hu
            have ea : (⟨w4.heap.size, 0, none⟩ : Addr).add j = ⟨w4.heap.size, j, none⟩ := by unfold Addr.add; split <;> simp_all
            rw [ea, World.cell?, heap_alloc_new, hFC.out]
            simpa using hu
          have H1C : Hid (∀ u ∈ f.cs, u.oneCell' = true) := by
            intro u hu
            have := HF.out.2
            rw [hFC.out, Array.all_eq_true_iff_forall_mem] at this
            exact this u (by simpa using hu)
          obtain ⟨a4, c4, hr4⟩ := hR4
          refine Calls.mono (R := fun r w' => r = .returned (.int .i64 0) ∧ _ = w') (rerr_calls hr4) ?_
          rintro e wz ⟨rfl, rfl⟩
          go_wp2_with (first
            | ((with_reducible refine wpList_load_op (o := ⟨some 84, .load 31 (.tmp 9), _, _, _, _⟩) (by with_unfolding_all rfl) (by with_unfolding_all rfl) (by with_unfolding_all rfl) HLD.out ?_))
            | ((with_reducible refine wpList_value (o := ⟨some 85, .buildSlice _ _ _, _, _, _, _⟩) (by with_unfolding_all rfl) (build_fl_run _ _ _ _ _ _ FC HF.out.1 (by with_unfolding_all rfl)) ?_))
            | ((with_reducible refine wpList_append_lies (o := ⟨some 86, .call _, _, _, _, _⟩) _ (by with_unfolding_all rfl) (.tmp 83) (.tmp 85) 22 (by with_unfolding_all rfl) w2.heap.size 31 i0 (.agg (Fl0 0).cs.toArray) 37 88 Try.underlying22 hi hz0 hz1 hz2 rfl (by decide) (.slice va gfs.length vc) gfs.length (gfs.flatMap Fl.cs) (by with_unfolding_all rfl) H5.row ⟨w4.heap.size, 0, none⟩ 1 1 f.cs (by with_unfolding_all rfl) (fl_len _ hf3.t32) HN5.out H1C.out (by decide) (by unfold maxLen; omega) (by omega) HZ5.out _ rfl ?_); intro g5 cap5 w5 hrow5 hgr5 hl5 hlt5))
          have hnew5 : f.l ≠ [] → ∀ g, Go.Cit.blk f.a = some g → (Value.slice va gfs.length vc).ownBlock ≠ some g ∧ w2.heap.size ≤ g := hnew4
          have H6 := Held.more H5 hf5 HZ5.out hnew5 hrow5 hgr5 hl5
          have hN : (gfs ++ [f]).length = gfs.length + 1 := by simp
          obtain ⟨va6, vc6, hv6, hfl6⟩ := H6.flds
          injection hv6 with hv6a hv6b hv6c
          subst hv6a hv6c
          have htot : totN (gfs ++ [f]) + l3.length ≤ 40 * (k + 1) + l.length ∧ sl = f.bytes ++ l3 ∧ 1 ≤ f.bytes.length := by
            have h2 := HS.out.2
            obtain ⟨k1, k2, k3⟩ := HK.out
            have k1l := congrArg List.length k1
            rw [List.length_append] at k1l
            refine ⟨?_, k1, k2⟩
            rw [totN_snoc]
            omega
          have hform := form_calls w5 _ (gfs ++ [f]) _ hfl6 (by have := HL6.out; omega)
          rw [hN] at hform
          have HT := Lib.hid htot
          have HN := Lib.hid hN
          have z5 := hb5.size
          have z6 := hgr5.size
          have B5 : Below w.heap.size w w5 := (B4.trans (hb5.mono B4.size)).grown hgr5 (by have := B4.size; omega) (fun j e => by have := (H5.row.lt j e).1; have := B.size; have := z1; omega)
          have hR5 : RdAt w1.heap.size w2.heap.size w5 w1.heap.size ⟨l3, 0⟩ := (RdAt.stay ⟨a4, c4, hr4⟩ hb5).save (Save.grown hgr5) (fun e => by have := (H5.row.lt _ e.symm).1; omega) (fun g _ hg e => by have := (H5.row.lt g e.symm).1; omega)
          clear htot hN hnew4 hnew5 H5 hf5 hrow5 hl5 hlt5 hr4 hf4 H4 hkb
          refine Calls.mono hform ?_
          rintro e w6 ⟨a6, X, c6, HX, rfl, hm6, hb6⟩
          clear hform
          have B6 := B5.trans (hb6.mono B5.size)
          have hR6 := hR5.stay hb6
          have H7 := H6.save (S := fun _ => True) (Save.of hb6) (fun _ _ _ => trivial)
          have r6 := h1.stay B6
          have hXl : l = X ++ l3 := by
            have := HS.out.1
            rw [HT.out.2.1] at this
            rw [HX.out, allB_snoc, List.append_assoc]; exact this
          have hXn : l.length = X.length + l3.length := by rw [hXl, List.length_append]; 
          have hsl : l3.length < sl.length := by
            have := congrArg List.length HT.out.2.1
            rw [List.length_append] at this
            have := HT.out.2.2
            omega
          have d1 : decide ((sl.length : Int) ≤ (l3.length : Int)) = false := by simp; omega
          have d1' : decide (sl.length ≤ l3.length) = false := by simp; omega
          have d2 : ((X.length : Int) != (l.length : Int) - (l3.length : Int)) = false := by
            have : (X.length : Int) = (l.length : Int) - (l3.length : Int) := by omega
            rw [this]; simp
          obtain ⟨a7, m7, c7, hm7, hrun7, r7⟩ := r6.upto bt.slice bt.sz X.length (by omega)
          have hm7' : m7 = X := by rw [hm7, hXl, List.take_left' rfl]
          have HSM : Hid ((ordB X m7 == 0) = true) := by rw [Hid, hm7', ordB_self]
          have HXN := Lib.hid (And.intro hXl hXn)
          have hl1 : l.length ≤ 600 := HL6.out.1
          have hl3 : (l3.length : Int) ≤ (l.length : Int) := by omega
          clear hm7 hm7' hXl hXn hsl
          obtain ⟨a8, c8, hr8⟩ := hR6
          have hlv3 : ∀ (R : Ending → World → Prop), R (.returned (.int .i64 (l3.length : Int))) w6 → Calls Try.prog 19 #[.pointer (some ⟨w1.heap.size, 0, none⟩)] w6 R := by
            intro R hRR
            refine (rleft_calls hr8).mono ?_
            rintro e wz ⟨rfl, rfl⟩
            have : (St.left ⟨l3, 0⟩ : Int) = (l3.length : Int) := by rw [St.left, if_pos rfl]
            rw [this]; exact hRR
          have HLV := Lib.hid hlv3
          clear hlv3
          go_wp2_with fail
          refine HLV.out _ ?_
          go_wp2_with fail
          refine HLV.out _ ?_
          go_wp2_with fail
          refine (wsame_calls _ _ _ _ _ _ _ hm6.row r7).mono ?_
          rintro e wz ⟨rfl, rfl⟩
          have hsm := HSM.out
          go_wp2_with fail
          go_roundw
          case rel => exact ⟨k + 1, l3, gfs ++ [f], by omega, by go_num, ⟨by rw [HXN.out.1, HX.out], HT.out.1⟩, by rw [← HN.out]; exact H7, ⟨_, _, hr8⟩, B6, by have := hb6.size; omega⟩
          case measure => simp [intOf]; omega
    · go_wp2_with fail
      go_ret
      exact ⟨rfl, B⟩
end Go.Proofs.Ytglmijcfdcajkaa
