/- WireOrder: what was added is taken in the same order; what stands behind the form stands in front then. The walk of the law. -/
import Derived.Test.YtglmijcfdcajkaaWireTaken
import Derived.Test.YtglmijcfdcajkaaWireAwake
import Derived.Test.YtglmijcfdcajkaaLawWireAdds
import Derived.Test.YtglmijcfdcajkaaLawWireCounts
namespace Go.Proofs.Ytglmijcfdcajkaa
open Go Go.RowKit Go.Cit

theorem numB_row4 (n : Nat) (h : n ≤ 65536) : (numB (rowB (qOfW (wOfI (n : Int))) 4)).toNat = n := by
  rw [numB_toNat _ (by rw [rowB_length]; decide)]
  have hx : (qOfW (wOfI (n : Int))).toNat = n := by
    have h1 := wOfI_nat (n : Int)
    unfold qOfW
    rw [UInt32.toNat_toUInt64]; omega
  simp only [rowB, numN, List.foldl_cons, List.foldl_nil, byte_dv, hx]
  simp only [Nat.pow_zero, Nat.div_one, Nat.pow_one]
  omega

theorem read_front {α : Type} (x rest : List UInt8) (n : Nat) (f : List UInt8 → α × Bool) (z : α) (hx : x.length = n) (hf : (f x).2 = true) : St.read ⟨x ++ rest, 0⟩ n f z = ((f x).1, ⟨rest, 0⟩) := by
  rw [read_yes (by rw [List.length_append]; omega) (by rw [List.take_left' hx]; exact hf), List.take_left' hx, List.drop_left' hx]

theorem bytes_front (m rest : List UInt8) (h : m.length ≤ 65536) : St.bytes ⟨withB m ++ rest, 0⟩ = (m, ⟨rest, 0⟩) := by
  have hl : (rowB (qOfW (wOfI (m.length : Int))) 4).length = 4 := rowB_length _ _
  have hn := numB_row4 m.length h
  have h1 : St.read ⟨withB m ++ rest, 0⟩ 4 fLen 0 = ((m.length : Int), ⟨m ++ rest, 0⟩) := by
    rw [withB, List.append_assoc, read_front _ _ 4 fLen 0 hl (by simp only [fLen, hn, decide_eq_true_eq]; exact h)]
    simp only [fLen, hn]
  rw [St.bytes, h1]
  simp only [if_true]
  exact read_front m rest m.length fAll [] rfl rfl

theorem taken_ok {base top w b a c} {rest : List UInt8} (f : Fl) (h : Rd base top w b a (f.bytes ++ rest) c 0) (hf : f.At w) (ht : top ≤ w.heap.size) (hne : f.l ≠ [] → ∀ g, Go.Cit.blk f.a = some g → g ≠ b) (hl : f.l.length ≤ 65536) :
    Calls Try.prog 38 #[.pointer (some ⟨b, 0, none⟩), .agg f.cs.toArray] w fun r w' => r = .returned (.bool true) ∧ RdAt base top w' b ⟨rest, 0⟩ ∧ Save (· ≠ b) w w' := by
  by_cases h0 : f.what = 0
  · have hb : f.bytes = [f.x] := by rw [Fl.bytes, if_pos h0]
    have hk := taken0_calls h f hf h0
    rw [hb, read_front [f.x] rest 1 fByte 0 rfl rfl] at hk
    simpa [fByte] using hk
  by_cases h1 : f.what = 1
  · have hb : f.bytes = rowB (qOfI f.n) 8 := by rw [Fl.bytes, if_neg h0, if_pos h1]
    have hk := taken1_calls h f hf h1
    rw [hb, read_front _ rest 8 fInt 0 (rowB_length _ _) rfl] at hk
    simpa [fInt, i64_row f.n hf.hn] using hk
  by_cases h2 : f.what = 2
  · have hb : f.bytes = flagB f.is := by rw [Fl.bytes, if_neg h0, if_neg h1, if_pos h2]
    have hk := taken2_calls h f hf h2
    rw [hb, read_front (flagB f.is) rest 1 fFlag false rfl (by cases f.is <;> decide)] at hk
    have : ((fFlag (flagB f.is)).1 == f.is) = true := by cases f.is <;> decide
    rw [this] at hk
    exact hk
  by_cases h3 : f.what = 3
  · have hb : f.bytes = withB f.l := by rw [Fl.bytes, if_neg h0, if_neg h1, if_neg h2, if_pos (.inl h3)]
    have hk := taken3_calls h f hf h3 hne
    rw [hb, bytes_front f.l rest hl] at hk
    simpa using hk
  by_cases h4 : f.what = 4
  · have hb : f.bytes = withB f.l := by rw [Fl.bytes, if_neg h0, if_neg h1, if_neg h2, if_pos (.inr h4)]
    have hk := taken4_calls h f hf h4 hne
    rw [hb, bytes_front f.l rest hl] at hk
    simpa using hk
  by_cases h5 : f.what = 5
  · have hb : f.bytes = f.t := by rw [Fl.bytes, if_neg h0, if_neg h1, if_neg h2, if_neg (by rintro (h | h) <;> contradiction), if_pos h5]
    have hk := taken5_calls h f hf h5 ht
    rw [hb, read_front f.t rest 32 fTag zeros32 hf.t32 rfl] at hk
    simpa [fTag] using hk
  · have hb : f.bytes = [] := by rw [Fl.bytes]; simp [h0, h1, h2, h3, h4, h5]
    have hb0 : Below w.heap.size w (w.alloc (.cells f.cs.toArray 31)) := (Below.refl _ _).alloc (Nat.le_refl _) _
    have c0 := (boxes_new w f 31).c0
    rw [hb, List.nil_append] at h
    have g0 : (f.what == 0) = false := by simpa using h0
    have g1 : (f.what == 1) = false := by simpa using h1
    have g2 : (f.what == 2) = false := by simpa using h2
    have g3 : (f.what == 3) = false := by simpa using h3
    have g4 : (f.what == 4) = false := by simpa using h4
    have g5 : (f.what == 5) = false := by simpa using h5
    clear h0 h1 h2 h3 h4 h5 hb
    go_enter Try.func38, Try.ntmps38
    generalize f.cs.toArray = C at *
    go_wp2_with fail
    go_ret
    exact ⟨rfl, ⟨_, _, h.stay hb0⟩, Save.of hb0⟩

theorem form_calls (w : World) (a0 : Option Addr) (fs : List Fl) (c0 : Nat) (h0 : Flds w a0 fs c0) (hg : totN fs ≤ 5000) :
    Calls Try.prog 37 #[.slice a0 fs.length c0] w fun e w' => ∃ a X c, Hid (X = allB fs) ∧ e = .returned (.tuple #[.slice a X.length c, .bool true]) ∧ Mine w.heap.size w' a X c ∧ Below w.heap.size w w' := by
  have hlen := h0.len_le
  have HG : Hid (∀ k, (allB (fs.take k)).length ≤ 5000) := by
    intro k
    have h1 := allB_len (fs.take k) (fun f hf => by
      obtain ⟨i, hi, rfl⟩ := List.mem_iff_getElem.1 (List.mem_of_mem_take hf)
      exact (h0.fld i hi).t32)
    have h2 := totN_le fs k
    omega
  clear hg
  go_enter Try.func37, Try.ntmps37
  go_wp2_with fail
  refine (newwriter_calls _).mono ?_
  rintro e w2 ⟨rfl, hW, hb2⟩
  go_wp2_with fail
  go_loopw [5] (fun i wr => ∃ (k : Nat) (a : Option Addr) (X : List UInt8) (c : Nat), Hid (X = allB (fs.take k)) ∧ k ≤ fs.length ∧ i = .int .i64 k ∧ Wr w.heap.size wr w.heap.size a X c 0 ∧ Below w.heap.size w wr) (fun i _ => fs.length - (intOf i).toNat)
  case atStart => exact ⟨0, none, [], 0, rfl, Nat.zero_le _, rfl, hW, hb2⟩
  case round =>
    clear hW hb2
    obtain ⟨k, a, X, c, HX, hk, rfl, hW, B⟩ := hrel
    have hs := B.size
    have hXl : X.length ≤ 5000 := by rw [HX.out]; exact HG.out k
    by_cases hlt : k < fs.length
    · have q0 := h0.stay B
      have i0 := q0.index k hlt
      have HLD := Lib.hid (q0.load k hlt)
      have HXZ : Hid (X ++ fs[k].bytes = allB (fs.take (k + 1))) := by rw [Hid, HX.out, allB_take fs k hlt]
      have hZl : X.length + fs[k].bytes.length ≤ 65536 := by rw [← List.length_append, HXZ.out]; exact Nat.le_trans (HG.out (k + 1)) (by decide)
      have hadd := ladd_calls fs[k] (q0.fld k hlt) hW hs hZl
      clear hZl
      go_wp2_with ((with_reducible refine wpList_load_op (o := ⟨some 19, .load 31 (.tmp 18), _, _, _, _⟩) (by with_unfolding_all rfl) (by with_unfolding_all rfl) (by with_unfolding_all rfl) HLD.out ?_))
      refine Calls.mono hadd ?_
      rintro e w5 ⟨a5, X5, c5, HX5, rfl, hW5, hS5, hN5⟩
      go_wp2_with fail
      go_roundw
      case rel => exact ⟨k + 1, a5, X5, c5, by rw [Hid, HX5.out, HXZ.out], hlt, by go_num, hW5, B.trans (hS5.below hs (fun g hg => ⟨by omega, fun he => by have := (hW.own.blk_ge he.symm).1; omega⟩))⟩
      case measure => simp [intOf]; omega
    · have hk2 : k = fs.length := by omega
      have HX2 : Hid (X = allB fs) := by rw [Hid, HX.out, hk2, List.take_length]
      clear hk2 HX
      go_wp2_with fail
      refine (done_calls hW).mono ?_
      rintro e w6 ⟨a6, V, c6, HV, rfl, hm6, hb6⟩
      go_wp2_with fail
      go_ret2
      exact ⟨a6, V, c6, by rw [Hid, HV.out, HX2.out], rfl, hm6.low hs, B.trans (hb6.mono hs)⟩

theorem allB_drop (fs : List Fl) (k : Nat) (h : k < fs.length) : allB (fs.drop k) = fs[k].bytes ++ allB (fs.drop (k + 1)) := by
  rw [allB, List.drop_eq_getElem_cons h, List.flatMap_cons]; rfl

set_option maxRecDepth 100000 in
set_option maxHeartbeats 4000000 in
theorem wireOrder_law (w : World) (a0 : Option Addr) (fs : List Fl) (c0 : Nat) (a1 : Option Addr) (l : List UInt8) (c1 : Nat) (h0 : Flds w a0 fs c0) (h1 : Row w a1 l c1) :
    Calls Try.prog 9 #[.slice a0 fs.length c0, .slice a1 l.length c1] w fun e w' => e = .returned (.bool true) ∧ Below w.heap.size w w' := by
  have hlen := h0.len_le
  go_enter Try.func9, Try.ntmps9
  go_wp2_with fail
  refine (wireAwake_calls _).mono ?_
  rintro e w1 ⟨rfl, B1⟩
  have q1 := h0.stay B1
  have r1 := h1.stay B1
  go_wp2_with fail
  refine (great_calls _ _ _ _ q1).mono ?_
  rintro e w2 ⟨rfl, hw2⟩
  subst hw2
  by_cases hg : 5000 < totN fs
  · have gg : decide (5000 < totN fs) = true := decide_eq_true hg
    have HG := Lib.hid hg
    clear hg
    go_wp2_with fail
    go_ret
    exact ⟨rfl, B1⟩
  have gg : decide (5000 < totN fs) = false := decide_eq_false hg
  by_cases hl : 300 < l.length
  · have HG := Lib.hid hg
    clear hg
    go_wp2_with fail
    go_ret
    exact ⟨rfl, B1⟩
  have hform := form_calls _ _ _ _ q1 (by omega)
  have HF : Hid (∀ i (h : i < fs.length), fs[i].l.length ≤ 5000) := by
    intro i h
    have := totN_one fs i h
    omega
  have HA : Hid ((allB fs).length ≤ 5000) := by
    have h1 := allB_len fs (fun f hf => by
      obtain ⟨i, hi, rfl⟩ := List.mem_iff_getElem.1 hf
      exact (h0.fld i hi).t32)
    rw [Hid]; omega
  clear hg
  go_wp2_with fail
  refine Calls.mono hform ?_
  rintro e w3 ⟨a3, X, c3, HX, rfl, hm3, hb3⟩
  have B3 := B1.trans (hb3.mono B1.size)
  have r3 := r1.stay hb3
  have hXl : X.length ≤ 5000 := by rw [HX.out]; exact HA.out
  clear gg hform r1 q1
  go_wp2_with fail
  refine (toX (cat2_calls _ _ hm3.row r3 (by omega) (by omega))).mono ?_
  rintro e w4 ⟨a4, Y, c4, HY, rfl, hm4, hb4⟩
  have B4 := B3.trans (hb4.mono B3.size)
  have HY2 : Hid (Y = allB fs ++ l) := by rw [Hid, HY.out, HX.out]
  have hYl : Y.length ≤ 65536 := by rw [HY.out, List.length_append]; omega
  clear hm3 r3 hb3 hb4 B3
  go_wp2_with fail
  refine (newreader_calls _ hm4.row).mono ?_
  rintro e w5 ⟨rfl, hR, hb5⟩
  have B5 := B4.trans (hb5.mono B4.size)
  have hR : RdAt w4.heap.size w5.heap.size w5 w4.heap.size ⟨Y, 0⟩ := by rw [St.new, if_pos hYl] at hR; exact hR
  have z4 := B4.size
  clear hm4 hb5 B4
  go_wp2_with fail
  go_loopw [8] (fun i wr => ∃ k : Nat, k ≤ fs.length ∧ i = .int .i64 k ∧ RdAt w4.heap.size w5.heap.size wr w4.heap.size ⟨allB (fs.drop k) ++ l, 0⟩ ∧ Below w.heap.size w wr ∧ w5.heap.size ≤ wr.heap.size) (fun i _ => fs.length - (intOf i).toNat)
  case atStart => exact ⟨0, Nat.zero_le _, rfl, by rw [List.drop_zero, ← HY2.out]; exact hR, B5, Nat.le_refl _⟩
  case round =>
    clear hR B5
    obtain ⟨k, hk, rfl, ⟨a6, c6, hR⟩, B, hz⟩ := hrel
    by_cases hlt : k < fs.length
    · have q0 := h0.stay B
      have i0 := q0.index k hlt
      have HLD := Lib.hid (q0.load k hlt)
      have hne : fs[k].l ≠ [] → ∀ g, blk fs[k].a = some g → g ≠ w4.heap.size := by
        intro hn g hg
        have h5 := (h0.fld k hlt).row.blk (List.length_pos_iff.2 hn)
        have : (ad fs[k].a 0).block = g := by
          cases hx : fs[k].a with
          | none => rw [hx] at hg; simp [blk] at hg
          | some p => rw [hx] at hg; simpa [blk, ad] using hg
        omega
      rw [allB_drop fs k hlt, List.append_assoc] at hR
      have htk := taken_ok fs[k] hR (q0.fld k hlt) hz hne (Nat.le_trans (HF.out k hlt) (by decide))
      clear hR hne
      go_wp2_with ((with_reducible refine wpList_load_op (o := ⟨some 40, .load 31 (.tmp 39), _, _, _, _⟩) (by with_unfolding_all rfl) (by with_unfolding_all rfl) (by with_unfolding_all rfl) HLD.out ?_))
      refine Calls.mono htk ?_
      rintro e w6 ⟨rfl, hR6, hS6⟩
      have hz6 := Nat.le_trans hz hS6.size
      have B6 := B.trans (hS6.below B.size (fun g hg => by omega))
      clear htk
      go_wp2_with fail
      go_roundw
      case rel => exact ⟨k + 1, hlt, by go_num, hR6, B6, hz6⟩
      case measure => simp [intOf]; omega
    · have hk2 : k = fs.length := by omega
      subst hk2
      have hR : Rd w4.heap.size w5.heap.size wr w4.heap.size a6 l c6 0 := by
        rw [List.drop_length] at hR; exact hR
      go_wp2_with fail
      refine (rerr_calls hR).mono ?_
      rintro e w6 ⟨rfl, hw6⟩
      subst hw6
      go_wp2_with fail
      refine (rleft_calls hR).mono ?_
      rintro e w7 ⟨rfl, hw7⟩
      subst hw7
      rw [show St.left ⟨l, 0⟩ = l.length from rfl]
      go_wp2_with fail
      refine (rend_calls hR).mono ?_
      rintro e w8 ⟨rfl, hw8⟩
      subst hw8
      have hfin : (St.fin ⟨l, 0⟩ == 0) = ((l.length : Int) == 0) := by
        rw [St.fin, show St.left ⟨l, 0⟩ = l.length from rfl]
        by_cases hp : 0 < l.length
        · rw [if_pos hp]
          have : ((l.length : Int) == 0) = false := by simpa using List.ne_nil_of_length_pos hp
          rw [this]; rfl
        · rw [if_neg hp]
          have : l.length = 0 := by omega
          rw [this]; rfl
      go_wp2_with fail
      go_ret
      exact ⟨by simp, B⟩
end Go.Proofs.Ytglmijcfdcajkaa
