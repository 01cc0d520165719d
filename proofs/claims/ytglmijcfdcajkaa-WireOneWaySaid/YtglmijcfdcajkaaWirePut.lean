/- The wire laws' put, add, Great: contracts. -/
import Derived.Test.YtglmijcfdcajkaaWireLaw
namespace Go.Proofs.Ytglmijcfdcajkaa
open Go Go.RowKit Go.Cit

/-- A field, boxed: its cells. -/
structure Boxes (w : World) (b o : Nat) (f : Fl) : Prop where
  c0 : w.cell? ⟨b, o, none⟩ = some (.int .i64 f.what)
  c1 : w.cell? ⟨b, o + 1, none⟩ = some (vb f.x)
  c2 : w.cell? ⟨b, o + 2, none⟩ = some (.int .i64 f.n)
  c3 : w.cell? ⟨b, o + 3, none⟩ = some (.bool f.is)
  c4 : w.cell? ⟨b, o + 4, none⟩ = some (.slice f.a f.l.length f.c)
  ct : ∀ k (h : k < f.t.length), w.cell? ⟨b, o + 5 + k, none⟩ = some (vb f.t[k])

theorem boxes_of {w : World} {b o : Nat} {f : Fl} (h : ∀ j, j < f.cs.length → w.cell? ⟨b, o + j, none⟩ = f.cs[j]?) : Boxes w b o f := by
  have hl : f.cs.length = 5 + f.t.length := by simp [Fl.cs]; omega
  refine ⟨h 0 (by omega), h 1 (by omega), h 2 (by omega), h 3 (by omega), h 4 (by omega), fun k hk => ?_⟩
  have := h (5 + k) (by omega)
  rw [Nat.add_assoc, this]
  simp only [Fl.cs]
  rw [List.getElem?_append_right (by simp)]
  simp [hk]
theorem boxes_new (w : World) (f : Fl) (t : TypeId) : Boxes (w.alloc (.cells f.cs.toArray t)) w.heap.size 0 f :=
  boxes_of fun j hj => by rw [Nat.zero_add, World.cell?, heap_alloc_new]; simp

set_option maxRecDepth 100000 in
theorem put_calls (w : World) (f : Fl) (h : f.At w) (hl : f.l.length ≤ 400000000) :
    Calls Try.prog 13 #[.agg f.cs.toArray] w (OwnRet w.heap.size w f.bytes) := by
  have hb0 : Below w.heap.size w (w.alloc (.cells f.cs.toArray 31)) := (Below.refl _ _).alloc (Nat.le_refl _) _
  have B := boxes_new w f 31
  have ht := load_tag (w.alloc (.cells f.cs.toArray 31)) w.heap.size 5 f.t h.t32 (fun k hk => B.ct k hk)
  have c0 := B.c0
  have c1 := B.c1
  have c2 := B.c2
  have c3 := B.c3
  have c4 := B.c4
  simp only [Nat.zero_add] at c0 c1 c2 c3 c4
  have hz : (w.alloc (.cells f.cs.toArray 31)).heap.size = w.heap.size + 1 := by simp
  have r := h.row.stay hb0
  have HT := Lib.hid ht
  have H32 := Lib.hid h.t32
  have HB := Lib.hid hb0
  have HZ := Lib.hid hz
  have o1 := own_lit (w.alloc (.cells f.cs.toArray 31)) #[vb f.x] 5 [f.x] rfl (by simp)
  clear B ht hb0 hz
  have hret : ∀ {L : List UInt8} {e w'}, OwnRet (w.alloc (.cells f.cs.toArray 31)).heap.size (w.alloc (.cells f.cs.toArray 31)) L e w' → f.bytes = L → OwnRet w.heap.size w f.bytes e w' := by
    rintro L e w' ⟨a, X, c, h1, h2, h3, h4, h5⟩ rfl
    rw [HZ.out] at h3 h5
    exact ⟨a, X, c, h1, h2, h3.low (by omega), h4, HB.out.trans (h5.mono (by omega))⟩
  go_enter Try.func13, Try.ntmps13
  generalize f.cs.toArray = C at *
  by_cases h0 : f.what = 0
  · have HBy : Hid (f.bytes = [f.x]) := by rw [Hid, Fl.bytes]; simp [h0]
    have g0 : (f.what == 0) = true := by rw [h0]; rfl
    have g1 : (f.what == 1) = false := by rw [h0]; rfl
    have g2 : (f.what == 2) = false := by rw [h0]; rfl
    have g3 : (f.what == 3) = false := by rw [h0]; rfl
    have g4 : (f.what == 4) = false := by rw [h0]; rfl
    have g5 : (f.what == 5) = false := by rw [h0]; rfl
    clear h0 
    go_wp2_with fail
    go_ret
    exact ⟨_, [f.x], _, by rw [Hid, HBy.out], rfl, by have := o1; rw [HZ.out] at this; exact this.low (by omega), fun h => by simp at h, HB.out.trans ((Below.refl _ _).alloc (by rw [HZ.out]; omega) _)⟩
  by_cases h1 : f.what = 1
  · have HBy : Hid (f.bytes = rowB (qOfI f.n) 8) := by rw [Hid, Fl.bytes]; simp [h1]
    have g0 : (f.what == 0) = false := by rw [h1]; rfl
    have g1 : (f.what == 1) = true := by rw [h1]; rfl
    have g2 : (f.what == 2) = false := by rw [h1]; rfl
    have g3 : (f.what == 3) = false := by rw [h1]; rfl
    have g4 : (f.what == 4) = false := by rw [h1]; rfl
    have g5 : (f.what == 5) = false := by rw [h1]; rfl
    clear h1 h0
    go_wp2_with fail
    refine (refint_calls _ _).mono ?_
    intro e w1 hh
    have hr := hret hh HBy.out
    obtain ⟨a, X, c, h1, rfl, h3⟩ := hr
    go_wp2_with fail
    go_ret
    exact ⟨a, X, c, h1, rfl, h3⟩
  by_cases h2 : f.what = 2
  · have HBy : Hid (f.bytes = flagB f.is) := by rw [Hid, Fl.bytes]; simp [h2]
    have g0 : (f.what == 0) = false := by rw [h2]; rfl
    have g1 : (f.what == 1) = false := by rw [h2]; rfl
    have g2 : (f.what == 2) = true := by rw [h2]; rfl
    have g3 : (f.what == 3) = false := by rw [h2]; rfl
    have g4 : (f.what == 4) = false := by rw [h2]; rfl
    have g5 : (f.what == 5) = false := by rw [h2]; rfl
    clear h2 h0 h1
    go_wp2_with fail
    refine (refflag_calls _ _).mono ?_
    intro e w1 hh
    have hr := hret hh HBy.out
    obtain ⟨a, X, c, h1, rfl, h3⟩ := hr
    go_wp2_with fail
    go_ret
    exact ⟨a, X, c, h1, rfl, h3⟩
  by_cases h3 : f.what = 3
  · have HBy : Hid (f.bytes = withB f.l) := by rw [Hid, Fl.bytes]; simp [h3]
    have g0 : (f.what == 0) = false := by rw [h3]; rfl
    have g1 : (f.what == 1) = false := by rw [h3]; rfl
    have g2 : (f.what == 2) = false := by rw [h3]; rfl
    have g3 : (f.what == 3) = true := by rw [h3]; rfl
    have g4 : (f.what == 4) = false := by rw [h3]; rfl
    have g5 : (f.what == 5) = false := by rw [h3]; rfl
    clear h3 h0 h1 h2
    go_wp2_with fail
    refine (refbytes_calls _ r hl).mono ?_
    intro e w1 hh
    have hr := hret hh HBy.out
    obtain ⟨a, X, c, h1, rfl, h3⟩ := hr
    go_wp2_with fail
    go_ret
    exact ⟨a, X, c, h1, rfl, h3⟩
  by_cases h4 : f.what = 4
  · have HBy : Hid (f.bytes = withB f.l) := by rw [Hid, Fl.bytes]; simp [h4]
    have g0 : (f.what == 0) = false := by rw [h4]; rfl
    have g1 : (f.what == 1) = false := by rw [h4]; rfl
    have g2 : (f.what == 2) = false := by rw [h4]; rfl
    have g3 : (f.what == 3) = false := by rw [h4]; rfl
    have g4 : (f.what == 4) = true := by rw [h4]; rfl
    have g5 : (f.what == 5) = false := by rw [h4]; rfl
    clear h4 h0 h1 h2 h3
    go_wp2_with fail
    refine (refbytes_calls _ r hl).mono ?_
    intro e w1 hh
    have hr := hret hh HBy.out
    obtain ⟨a, X, c, h1, rfl, h3⟩ := hr
    go_wp2_with fail
    go_ret
    exact ⟨a, X, c, h1, rfl, h3⟩
  by_cases h5 : f.what = 5
  · have HBy : Hid (f.bytes = f.t) := by rw [Hid, Fl.bytes]; simp [h5]
    have g0 : (f.what == 0) = false := by rw [h5]; rfl
    have g1 : (f.what == 1) = false := by rw [h5]; rfl
    have g2 : (f.what == 2) = false := by rw [h5]; rfl
    have g3 : (f.what == 3) = false := by rw [h5]; rfl
    have g4 : (f.what == 4) = false := by rw [h5]; rfl
    have g5 : (f.what == 5) = true := by rw [h5]; rfl
    clear h5 h0 h1 h2 h3 h4
    go_wp2_with ((with_reducible refine wpList_load_op (o := ⟨some 29, .load 29 (.tmp 28), _, _, _, _⟩) (by with_unfolding_all rfl) (by with_unfolding_all rfl) (by with_unfolding_all rfl) HT.out ?_))
    refine (reftag_calls _ _ H32.out).mono ?_
    intro e w1 hh
    have hr := hret hh HBy.out
    obtain ⟨a, X, c, h1, rfl, h3⟩ := hr
    go_wp2_with fail
    go_ret
    exact ⟨a, X, c, h1, rfl, h3⟩
  · have HBy : Hid (f.bytes = []) := by rw [Hid, Fl.bytes]; simp [h0, h1, h2, h3, h4, h5]
    have g0 : (f.what == 0) = false := by simpa using h0
    have g1 : (f.what == 1) = false := by simpa using h1
    have g2 : (f.what == 2) = false := by simpa using h2
    have g3 : (f.what == 3) = false := by simpa using h3
    have g4 : (f.what == 4) = false := by simpa using h4
    have g5 : (f.what == 5) = false := by simpa using h5
    clear h0 h1 h2 h3 h4 h5
    go_wp2_with fail
    go_ret
    exact ⟨none, [], 0, by rw [Hid, HBy.out], rfl, Own.nil _ _ _, fun _ => rfl, HB.out⟩
theorem bytes_room (f : Fl) (h : f.t.length = 32) : f.bytes.length ≤ f.l.length + 32 := by
  unfold Fl.bytes
  split
  · simp
  split
  · rw [rowB_length]; omega
  split
  · simp [flagB]
  split
  · rw [withB_length]; omega
  split
  · omega
  · simp

set_option maxRecDepth 100000 in
theorem ladd_calls {base w b a l c} (f : Fl) (h : f.At w) (hw : Wr base w b a l c 0) (hbase : base ≤ w.heap.size) (hroom : l.length + f.bytes.length ≤ 65536) :
    Calls Try.prog 14 #[.pointer (some ⟨b, 0, none⟩), .agg f.cs.toArray] w (Added base w b a (l ++ f.bytes)) := by
  have hb0 : Below w.heap.size w (w.alloc (.cells f.cs.toArray 31)) := (Below.refl _ _).alloc (Nat.le_refl _) _
  have B := boxes_new w f 31
  have ht := load_tag (w.alloc (.cells f.cs.toArray 31)) w.heap.size 5 f.t h.t32 (fun k hk => B.ct k hk)
  have c0 := B.c0
  have c1 := B.c1
  have c2 := B.c2
  have c3 := B.c3
  have c4 := B.c4
  simp only [Nat.zero_add] at c0 c1 c2 c3 c4
  have r := h.row.stay hb0
  have hs := row_string r
  have HT := Lib.hid ht
  have H32 := Lib.hid h.t32
  have HB := Lib.hid hb0
  have W0 := hw.stay hb0
  have hbase0 := Nat.le_trans hbase hb0.size
  have HR := Lib.hid hroom
  clear B ht hb0 hroom
  go_enter Try.func14, Try.ntmps14
  generalize f.cs.toArray = C at *
  by_cases h0 : f.what = 0
  · have HBy : Hid (f.bytes = [f.x]) := by rw [Hid, Fl.bytes]; simp [h0]
    have g0 : (f.what == 0) = true := by rw [h0]; rfl
    have g1 : (f.what == 1) = false := by rw [h0]; rfl
    have g2 : (f.what == 2) = false := by rw [h0]; rfl
    have g3 : (f.what == 3) = false := by rw [h0]; rfl
    have g4 : (f.what == 4) = false := by rw [h0]; rfl
    have g5 : (f.what == 5) = false := by rw [h0]; rfl
    clear h0 
    go_wp2_with fail
    refine (wbyte_calls W0 hbase0 f.x (by have := HR.out; rw [HBy.out] at this; simpa using this)).mono ?_
    intro e w1 hh
    obtain ⟨a', X, c', h1, rfl, h3⟩ := Added.from HB.out hh
    go_wp2_with fail
    go_ret
    exact ⟨a', X, c', by rw [HBy.out]; exact h1, rfl, h3⟩
  by_cases h1 : f.what = 1
  · have HBy : Hid (f.bytes = rowB (qOfI f.n) 8) := by rw [Hid, Fl.bytes]; simp [h1]
    have g0 : (f.what == 0) = false := by rw [h1]; rfl
    have g1 : (f.what == 1) = true := by rw [h1]; rfl
    have g2 : (f.what == 2) = false := by rw [h1]; rfl
    have g3 : (f.what == 3) = false := by rw [h1]; rfl
    have g4 : (f.what == 4) = false := by rw [h1]; rfl
    have g5 : (f.what == 5) = false := by rw [h1]; rfl
    clear h1 h0
    go_wp2_with fail
    refine (wint_calls W0 hbase0 f.n (by have := HR.out; rw [HBy.out, rowB_length] at this; exact this)).mono ?_
    intro e w1 hh
    obtain ⟨a', X, c', h1, rfl, h3⟩ := Added.from HB.out hh
    go_wp2_with fail
    go_ret
    exact ⟨a', X, c', by rw [HBy.out]; exact h1, rfl, h3⟩
  by_cases h2 : f.what = 2
  · have HBy : Hid (f.bytes = flagB f.is) := by rw [Hid, Fl.bytes]; simp [h2]
    have g0 : (f.what == 0) = false := by rw [h2]; rfl
    have g1 : (f.what == 1) = false := by rw [h2]; rfl
    have g2 : (f.what == 2) = true := by rw [h2]; rfl
    have g3 : (f.what == 3) = false := by rw [h2]; rfl
    have g4 : (f.what == 4) = false := by rw [h2]; rfl
    have g5 : (f.what == 5) = false := by rw [h2]; rfl
    clear h2 h0 h1
    go_wp2_with fail
    refine (wflag_calls W0 hbase0 f.is (by have := HR.out; rw [HBy.out] at this; simpa [flagB] using this)).mono ?_
    intro e w1 hh
    obtain ⟨a', X, c', h1, rfl, h3⟩ := Added.from HB.out hh
    go_wp2_with fail
    go_ret
    exact ⟨a', X, c', by rw [HBy.out]; exact h1, rfl, h3⟩
  by_cases h3 : f.what = 3
  · have HBy : Hid (f.bytes = withB f.l) := by rw [Hid, Fl.bytes]; simp [h3]
    have g0 : (f.what == 0) = false := by rw [h3]; rfl
    have g1 : (f.what == 1) = false := by rw [h3]; rfl
    have g2 : (f.what == 2) = false := by rw [h3]; rfl
    have g3 : (f.what == 3) = true := by rw [h3]; rfl
    have g4 : (f.what == 4) = false := by rw [h3]; rfl
    have g5 : (f.what == 5) = false := by rw [h3]; rfl
    clear h3 h0 h1 h2
    go_wp2_with fail
    refine (wbytes_calls W0 hbase0 r (by have := HR.out; rw [HBy.out, withB_length] at this; omega)).mono ?_
    intro e w1 hh
    obtain ⟨a', X, c', h1, rfl, h3⟩ := Added.from HB.out hh
    go_wp2_with fail
    go_ret
    exact ⟨a', X, c', by rw [HBy.out]; exact h1, rfl, h3⟩
  by_cases h4 : f.what = 4
  · have HBy : Hid (f.bytes = withB f.l) := by rw [Hid, Fl.bytes]; simp [h4]
    have g0 : (f.what == 0) = false := by rw [h4]; rfl
    have g1 : (f.what == 1) = false := by rw [h4]; rfl
    have g2 : (f.what == 2) = false := by rw [h4]; rfl
    have g3 : (f.what == 3) = false := by rw [h4]; rfl
    have g4 : (f.what == 4) = true := by rw [h4]; rfl
    have g5 : (f.what == 5) = false := by rw [h4]; rfl
    clear h4 h0 h1 h2 h3
    go_wp2_with fail
    refine (wtext_calls W0 hbase0 f.l (by have := HR.out; rw [HBy.out, withB_length] at this; omega)).mono ?_
    intro e w1 hh
    obtain ⟨a', X, c', h1, rfl, h3⟩ := Added.from HB.out hh
    go_wp2_with fail
    go_ret
    exact ⟨a', X, c', by rw [HBy.out]; exact h1, rfl, h3⟩
  by_cases h5 : f.what = 5
  · have HBy : Hid (f.bytes = f.t) := by rw [Hid, Fl.bytes]; simp [h5]
    have g0 : (f.what == 0) = false := by rw [h5]; rfl
    have g1 : (f.what == 1) = false := by rw [h5]; rfl
    have g2 : (f.what == 2) = false := by rw [h5]; rfl
    have g3 : (f.what == 3) = false := by rw [h5]; rfl
    have g4 : (f.what == 4) = false := by rw [h5]; rfl
    have g5 : (f.what == 5) = true := by rw [h5]; rfl
    clear h5 h0 h1 h2 h3 h4
    go_wp2_with ((with_reducible refine wpList_load_op (o := ⟨some 42, .load 29 (.tmp 41), _, _, _, _⟩) (by with_unfolding_all rfl) (by with_unfolding_all rfl) (by with_unfolding_all rfl) HT.out ?_))
    refine (wtag_calls W0 hbase0 f.t H32.out (by have := HR.out; rw [HBy.out, H32.out] at this; exact this)).mono ?_
    intro e w1 hh
    obtain ⟨a', X, c', h1, rfl, h3⟩ := Added.from HB.out hh
    go_wp2_with fail
    go_ret
    exact ⟨a', X, c', by rw [HBy.out]; exact h1, rfl, h3⟩
  · have HBy : Hid (f.bytes = []) := by rw [Hid, Fl.bytes]; simp [h0, h1, h2, h3, h4, h5]
    have g0 : (f.what == 0) = false := by simpa using h0
    have g1 : (f.what == 1) = false := by simpa using h1
    have g2 : (f.what == 2) = false := by simpa using h2
    have g3 : (f.what == 3) = false := by simpa using h3
    have g4 : (f.what == 4) = false := by simpa using h4
    have g5 : (f.what == 5) = false := by simpa using h5
    clear h0 h1 h2 h3 h4 h5
    go_wp2_with fail
    go_ret
    exact ⟨a, l, c, by rw [Hid, HBy.out, List.append_nil], rfl, W0, Save.of HB.out, Near.refl _ _⟩
end Go.Proofs.Ytglmijcfdcajkaa
