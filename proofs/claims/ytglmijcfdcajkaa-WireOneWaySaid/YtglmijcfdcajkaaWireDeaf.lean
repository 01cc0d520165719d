/- Writers that nobody made, or that are broken: nothing is added. Contracts. -/
import Derived.Test.YtglmijcfdcajkaaWireNo2
namespace Go.Proofs.Ytglmijcfdcajkaa
open Go Go.RowKit Go.Cit

/-- A writer to which nothing is added. -/
def Deaf (w : World) (p : Option Addr) : Prop := p = none ∨ ∃ b v md e, p = some ⟨b, 0, none⟩ ∧ w.heap[b]? = some (.cells #[v, .bool md, .int .i64 e] 51 (0, 0)) ∧ (md = false ∨ (md = true ∧ e ≠ 0))
theorem Deaf.stay {w w' p} (h : Deaf w p) (hb : Below w.heap.size w w') : Deaf w' p := by
  rcases h with h | ⟨b, v, md, e, h, hx, hm⟩
  · exact .inl h
  · exact .inr ⟨b, v, md, e, h, (hb.block b (Array.getElem?_eq_some_iff.1 hx).1).trans hx, hm⟩
theorem Deaf.of {base w b a l c e} (h : Wr base w b a l c e) (he : e ≠ 0) : Deaf w (some ⟨b, 0, none⟩) := .inr ⟨b, _, true, e, rfl, h.blk, .inr ⟨rfl, he⟩⟩
/-- A writer that nobody made. -/
def NoW (w : World) (p : Option Addr) : Prop := p = none ∨ ∃ b, p = some ⟨b, 0, none⟩ ∧ w.heap[b]? = some (.cells #[.slice none 0 0, .bool false, .int .i64 0] 51 (0, 0))
theorem NoW.stay {w w' p} (h : NoW w p) (hb : Below w.heap.size w w') : NoW w' p := by
  rcases h with h | ⟨b, h, hx⟩
  · exact .inl h
  · exact .inr ⟨b, h, (hb.block b (Array.getElem?_eq_some_iff.1 hx).1).trans hx⟩
theorem NoW.deaf {w p} (h : NoW w p) : Deaf w p := by
  rcases h with h | ⟨b, h, hx⟩
  · exact .inl h
  · exact .inr ⟨b, _, false, 0, h, hx, .inl rfl⟩
theorem nonone_calls {w p} (h : NoW w p) : Calls Try.prog 50 #[.pointer p] w fun r w' => r = .returned (.bool true) ∧ w = w' := by
  rcases h with rfl | ⟨b, rfl, hx⟩
  · go_enter Try.func50, Try.ntmps50
    go_wp2_with fail
    go_ret
    exact ⟨rfl, rfl⟩
  · have c1 : w.cell? ⟨b, 1, none⟩ = some (.bool false) := by rw [World.cell?, hx]; rfl
    go_enter Try.func50, Try.ntmps50
    go_wp2_with fail
    go_ret
    exact ⟨rfl, rfl⟩
theorem nodone_calls {w p} (h : NoW w p) : Calls Try.prog 15 #[.pointer p] w fun r w' => r = .returned (.tuple #[.slice none 0 0, .int .i64 1]) ∧ w = w' := by
  go_enter Try.func15, Try.ntmps15
  go_wp2_with fail
  refine (nonone_calls h).mono ?_
  rintro r w1 ⟨rfl, rfl⟩
  go_wp2_with fail
  go_ret2
  exact ⟨rfl, rfl⟩
theorem deafnone_calls {w : World} {b md} (hc : w.cell? ⟨b, 1, none⟩ = some (.bool md)) : Calls Try.prog 50 #[.pointer (some ⟨b, 0, none⟩)] w fun r w' => r = .returned (.bool (!md)) ∧ w = w' := by
  go_enter Try.func50, Try.ntmps50
  go_wp2_with fail
  go_ret
  exact ⟨rfl, rfl⟩
theorem deafadd_calls {w p} (h : Deaf w p) (v : Value) : Calls Try.prog 79 #[.pointer p, v] w fun r w' => r = .returned (.pointer p) ∧ w = w' := by
  rcases h with rfl | ⟨b, v1, md, e, rfl, hx, hm⟩
  · go_enter Try.func79, Try.ntmps79
    go_wp2_with fail
    refine (nonone_calls (.inl rfl)).mono ?_
    rintro r w1 ⟨rfl, rfl⟩
    go_wp2_with fail
    go_ret
    exact ⟨rfl, rfl⟩
  · have c1 : w.cell? ⟨b, 1, none⟩ = some (.bool md) := by rw [World.cell?, hx]; rfl
    have c2 : w.cell? ⟨b, 2, none⟩ = some (.int .i64 e) := by rw [World.cell?, hx]; rfl
    have hn := deafnone_calls c1
    rcases hm with rfl | ⟨rfl, he⟩
    · simp only [Bool.not_false] at hn
      go_enter Try.func79, Try.ntmps79
      go_wp2_with fail
      refine Calls.mono hn ?_
      rintro r w1 ⟨rfl, rfl⟩
      go_wp2_with fail
      go_ret
      exact ⟨rfl, rfl⟩
    · simp only [Bool.not_true] at hn
      have ge : (e != 0) = true := by simpa using he
      clear he
      go_enter Try.func79, Try.ntmps79
      go_wp2_with fail
      refine Calls.mono hn ?_
      rintro r w1 ⟨rfl, rfl⟩
      go_wp2_with fail
      go_ret
      exact ⟨rfl, rfl⟩
theorem deafbyte_calls {w p} (h : Deaf w p) (x : UInt8) : Calls Try.prog 44 #[.pointer p, vb x] w (Zero w (.pointer p)) := by
  go_enter Try.func44, Try.ntmps44
  go_wp2_with fail
  have g2 : Below w.heap.size w ((w.alloc (.cells #[vb x] 5)).alloc (.cells #[.slice (some ⟨w.heap.size, 0, none⟩) 1 1] 26)) := ((Below.refl _ _).alloc (Nat.le_refl _) _).alloc (by simp) _
  refine (deafadd_calls (h.stay g2) _).mono ?_
  rintro r w1 ⟨rfl, rfl⟩
  go_wp2_with fail
  go_ret
  exact ⟨rfl, g2⟩
theorem deafint_calls {w p} (h : Deaf w p) (n : Int) : Calls Try.prog 45 #[.pointer p, .int .i64 n] w (Zero w (.pointer p)) := by
  have hq : IntKind.u64.wrap n = ((qOfI n).toNat : Int) := by rw [wrap_u64_eq, qOfI_nat]
  go_enter Try.func45, Try.ntmps45
  go_wp2_with fail
  refine (toXn (rowB_length _ _) (put64_calls _ _)).mono ?_
  rintro e w1 ⟨a1, X, c1, HX, rfl, hm1, hb1⟩
  go_wp2_with fail
  have g2 : Below w.heap.size w (w1.alloc (.cells #[.slice a1 X.length c1] 26)) := hb1.alloc hb1.size _
  refine (deafadd_calls (h.stay g2) _).mono ?_
  rintro r w2 ⟨rfl, rfl⟩
  go_wp2_with fail
  go_ret
  exact ⟨rfl, g2⟩
theorem deafflag_calls {w p} (h : Deaf w p) (is : Bool) : Calls Try.prog 46 #[.pointer p, .bool is] w (Zero w (.pointer p)) := by
  go_enter Try.func46, Try.ntmps46
  cases is
  · go_wp2_with fail
    refine Calls.mono (deafbyte_calls h 0) ?_
    rintro e w' ⟨rfl, hb⟩
    go_wp2_with fail
    go_ret
    exact ⟨rfl, hb⟩
  · go_wp2_with fail
    refine Calls.mono (deafbyte_calls h 1) ?_
    rintro e w' ⟨rfl, hb⟩
    go_wp2_with fail
    go_ret
    exact ⟨rfl, hb⟩
theorem deafbytes_calls {w p} (h : Deaf w p) (a1 : Option Addr) (m c1 : Nat) : Calls Try.prog 47 #[.pointer p, .slice a1 m c1] w (Zero w (.pointer p)) := by
  have hq : IntKind.u32.wrap (m : Int) = ((wOfI m).toNat : Int) := by rw [wrap_u32_eq, wOfI_nat]
  go_enter Try.func47, Try.ntmps47
  go_wp2_with fail
  refine (toXn (rowB_length _ _) (put32_calls _ (wOfI m))).mono ?_
  rintro e w1 ⟨a2, X, c2, HX, rfl, hm1, hb1⟩
  go_wp2_with fail
  have g2 : Below w.heap.size w (w1.alloc (.cells #[.slice a2 X.length c2, .slice a1 m c1] 26)) := hb1.alloc hb1.size _
  refine (deafadd_calls (h.stay g2) _).mono ?_
  rintro r w2 ⟨rfl, rfl⟩
  go_wp2_with fail
  go_ret
  exact ⟨rfl, g2⟩
theorem deaftext_calls {w p} (h : Deaf w p) (l : List UInt8) (hl : l.length ≤ 1000000000) : Calls Try.prog 48 #[.pointer p, .string ⟨l.toArray⟩] w (Zero w (.pointer p)) := by
  obtain ⟨c, w1, hr, r1, hb⟩ := string_bytes w l hl
  go_enter Try.func48, Try.ntmps48
  go_wp2_with fail
  refine (deafbytes_calls (h.stay hb) _ _ _).mono ?_
  rintro r w2 ⟨rfl, hb2⟩
  go_wp2_with fail
  go_ret
  exact ⟨rfl, hb.trans (hb2.mono hb.size)⟩
theorem deaftag_calls {w p} (h : Deaf w p) (t : List UInt8) (_ht : t.length = 32) : Calls Try.prog 49 #[.pointer p, .agg (t.map vb).toArray] w (Zero w (.pointer p)) := by
  clear _ht
  generalize (t.map vb).toArray = T
  go_enter Try.func49, Try.ntmps49
  go_wp2_with fail
  have g2 : Below w.heap.size w ((w.alloc (.cells T 29)).alloc (.cells #[.slice (some ⟨w.heap.size, 0, none⟩) 32 32] 26)) := ((Below.refl _ _).alloc (Nat.le_refl _) _).alloc (by simp) _
  refine (deafadd_calls (h.stay g2) _).mono ?_
  rintro r w1 ⟨rfl, rfl⟩
  go_wp2_with fail
  go_ret
  exact ⟨rfl, g2⟩
set_option maxHeartbeats 2000000 in
theorem deafladd_calls {w p} (hd : Deaf w p) (f : Fl) (h : f.At w) (hl : f.l.length ≤ 1000000000) : Calls Try.prog 14 #[.pointer p, .agg f.cs.toArray] w (Zero w (.pointer p)) := by
  have hb0 : Below w.heap.size w (w.alloc (.cells f.cs.toArray 31)) := (Below.refl _ _).alloc (Nat.le_refl _) _
  have B := boxes_new w f 31
  have ht := load_tag (w.alloc (.cells f.cs.toArray 31)) w.heap.size 5 f.t h.t32 (fun k hk => B.ct k hk)
  have c0 := B.c0
  have c1 := B.c1
  have c2 := B.c2
  have c3 := B.c3
  have c4 := B.c4
  simp only [Nat.zero_add] at c0 c1 c2 c3 c4
  have r := h.row.stay hb0
  have hs := row_string r
  have HT := Lib.hid ht
  have H32 := Lib.hid h.t32
  have HB := Lib.hid hb0
  have D0 := hd.stay hb0
  have HL := Lib.hid hl
  clear B ht hb0 hl
  go_enter Try.func14, Try.ntmps14
  generalize f.cs.toArray = C at *
  by_cases h0 : f.what = 0
  · have g0 : (f.what == 0) = true := by rw [h0]; rfl
    have g1 : (f.what == 1) = false := by rw [h0]; rfl
    have g2 : (f.what == 2) = false := by rw [h0]; rfl
    have g3 : (f.what == 3) = false := by rw [h0]; rfl
    have g4 : (f.what == 4) = false := by rw [h0]; rfl
    have g5 : (f.what == 5) = false := by rw [h0]; rfl
    clear h0
    go_wp2_with (fail)
    refine Calls.mono (deafbyte_calls D0 f.x) ?_
    rintro e w1 ⟨rfl, hb⟩
    go_wp2_with fail
    go_ret
    exact ⟨rfl, HB.out.trans (hb.mono HB.out.size)⟩
  by_cases h1 : f.what = 1
  · have g0 : (f.what == 0) = false := by rw [h1]; rfl
    have g1 : (f.what == 1) = true := by rw [h1]; rfl
    have g2 : (f.what == 2) = false := by rw [h1]; rfl
    have g3 : (f.what == 3) = false := by rw [h1]; rfl
    have g4 : (f.what == 4) = false := by rw [h1]; rfl
    have g5 : (f.what == 5) = false := by rw [h1]; rfl
    clear h0 h1
    go_wp2_with (fail)
    refine Calls.mono (deafint_calls D0 f.n) ?_
    rintro e w1 ⟨rfl, hb⟩
    go_wp2_with fail
    go_ret
    exact ⟨rfl, HB.out.trans (hb.mono HB.out.size)⟩
  by_cases h2 : f.what = 2
  · have g0 : (f.what == 0) = false := by rw [h2]; rfl
    have g1 : (f.what == 1) = false := by rw [h2]; rfl
    have g2 : (f.what == 2) = true := by rw [h2]; rfl
    have g3 : (f.what == 3) = false := by rw [h2]; rfl
    have g4 : (f.what == 4) = false := by rw [h2]; rfl
    have g5 : (f.what == 5) = false := by rw [h2]; rfl
    clear h0 h1 h2
    go_wp2_with (fail)
    refine Calls.mono (deafflag_calls D0 f.is) ?_
    rintro e w1 ⟨rfl, hb⟩
    go_wp2_with fail
    go_ret
    exact ⟨rfl, HB.out.trans (hb.mono HB.out.size)⟩
  by_cases h3 : f.what = 3
  · have g0 : (f.what == 0) = false := by rw [h3]; rfl
    have g1 : (f.what == 1) = false := by rw [h3]; rfl
    have g2 : (f.what == 2) = false := by rw [h3]; rfl
    have g3 : (f.what == 3) = true := by rw [h3]; rfl
    have g4 : (f.what == 4) = false := by rw [h3]; rfl
    have g5 : (f.what == 5) = false := by rw [h3]; rfl
    clear h0 h1 h2 h3
    go_wp2_with (fail)
    refine Calls.mono (deafbytes_calls D0 f.a f.l.length f.c) ?_
    rintro e w1 ⟨rfl, hb⟩
    go_wp2_with fail
    go_ret
    exact ⟨rfl, HB.out.trans (hb.mono HB.out.size)⟩
  by_cases h4 : f.what = 4
  · have g0 : (f.what == 0) = false := by rw [h4]; rfl
    have g1 : (f.what == 1) = false := by rw [h4]; rfl
    have g2 : (f.what == 2) = false := by rw [h4]; rfl
    have g3 : (f.what == 3) = false := by rw [h4]; rfl
    have g4 : (f.what == 4) = true := by rw [h4]; rfl
    have g5 : (f.what == 5) = false := by rw [h4]; rfl
    clear h0 h1 h2 h3 h4
    go_wp2_with (fail)
    refine Calls.mono (deaftext_calls D0 f.l HL.out) ?_
    rintro e w1 ⟨rfl, hb⟩
    go_wp2_with fail
    go_ret
    exact ⟨rfl, HB.out.trans (hb.mono HB.out.size)⟩
  by_cases h5 : f.what = 5
  · have g0 : (f.what == 0) = false := by rw [h5]; rfl
    have g1 : (f.what == 1) = false := by rw [h5]; rfl
    have g2 : (f.what == 2) = false := by rw [h5]; rfl
    have g3 : (f.what == 3) = false := by rw [h5]; rfl
    have g4 : (f.what == 4) = false := by rw [h5]; rfl
    have g5 : (f.what == 5) = true := by rw [h5]; rfl
    clear h0 h1 h2 h3 h4 h5
    have D5 := deaftag_calls D0 f.t H32.out
    generalize (f.t.map vb).toArray = T at *
    go_wp2_with ((with_reducible refine wpList_load_op (o := ⟨some 42, .load 29 (.tmp 41), _, _, _, _⟩) (by with_unfolding_all rfl) (by with_unfolding_all rfl) (by with_unfolding_all rfl) HT.out ?_))
    refine Calls.mono (D5) ?_
    rintro e w1 ⟨rfl, hb⟩
    go_wp2_with fail
    go_ret
    exact ⟨rfl, HB.out.trans (hb.mono HB.out.size)⟩
  have g0 : (f.what == 0) = false := by simp [h0]
  have g1 : (f.what == 1) = false := by simp [h1]
  have g2 : (f.what == 2) = false := by simp [h2]
  have g3 : (f.what == 3) = false := by simp [h3]
  have g4 : (f.what == 4) = false := by simp [h4]
  have g5 : (f.what == 5) = false := by simp [h5]
  go_wp2_with fail
  go_ret
  exact ⟨rfl, HB.out⟩
end Go.Proofs.Ytglmijcfdcajkaa
