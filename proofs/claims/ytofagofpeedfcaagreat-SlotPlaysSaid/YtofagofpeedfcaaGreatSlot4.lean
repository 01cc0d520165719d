/- Chapter 15: slot.Write: walked. -/
import Derived.Test.YtofagofpeedfcaaGreatSlotC
namespace Go.Proofs.YtofagofpeedfcaaGreat
open Go Go.RowKit Go.Cit Go.Shelf
attribute [local go_sem] Oper.semAt_some

/-- The frame of a round. -/
def swF (p : Pl) (s at_ n : Nat) (a : Option Addr) (c B z : Nat) (v10 v30 : Value) : Act := { tmps := #[.pointer (some ⟨p.b, 0, none⟩), .int .i64 (s : Int), .int .i64 (at_ : Int), .slice a n c, .pointer (some ⟨B, 0, none⟩), undef, undef, .pointer (some ⟨B + 1, 0, none⟩), .pointer (some ⟨B + 1 + 1, 0, none⟩), .int .i64 0, v10, undef, undef,
  .pointer (some ⟨p.b, 0, none⟩), .int .i64 (s : Int), .int .i64 (at_ : Int), .slice a n c, .int .i64 (n : Int), .int .i64 0, .int .i64 0, .bool false, undef, .pointer (some ⟨p.b, 0, none⟩), .bool true, .bool false, .int .i64 (s : Int), .int .i64 (at_ : Int), .slice a n c, .int .i64 (n : Int),
  .func (.func 58) #[] #[.pointer (some ⟨z + 1, 0, none⟩), .pointer (some ⟨z + 2, 0, none⟩), .pointer (some ⟨z, 0, none⟩)], v30, undef, undef, undef, undef, undef, undef, undef, undef, undef, undef, undef, undef, undef, undef, undef, undef, undef, undef, undef, undef, undef, undef, undef, undef, undef, undef, undef], defers := [] }
/-- The disk, where a call's own boxes are none of its. -/
abbrev px (p : Pl) (B : Nat) : Pl := { p with x := fun k => p.x k ∨ (B ≤ k ∧ k < B + 6) }
theorem save_on {w W W' : World} {p : Pl} (h : Save p.Off w W) (k : Save (fun k => k < w.heap.size ∧ p.Off k) W W') : Save p.Off w W' :=
  ((h.less (T := fun k => k < w.heap.size ∧ p.Off k) (fun _ _ h => h.2)).trans k).less (fun _ h1 h2 => ⟨h1, h2⟩)
/-- The cells that a write keeps, and how far it has come. -/
structure SwI (w W : World) (p : Pl) (D : Dk) (l : List UInt8) (s at_ : Nat) (pre : List Pc) : Prop where
  st : ∃ D' m a2 c2 b, Cont D l pre D' m ∧ Leads (3 + 64 * s) (at_ + l.length) at_ pre b ∧ b ≤ at_ + l.length ∧ m.length = at_ + l.length - b ∧ DiskAt W (px p w.heap.size) D' ∧ W.heap[w.heap.size + 1]? = some (.cells #[.slice a2 m.length c2] 31 (0, 0)) ∧ Row W a2 m c2 ∧ (m ≠ [] → ∀ g, Go.Cit.blk a2 = some g → g < w.heap.size ∧ p.Off g)
  d : W.heap[w.heap.size]? = some (.cells #[.pointer (some ⟨p.b, 0, none⟩)] 24 (0, 0))
  e : W.heap[w.heap.size + 2]? = some (.cells #[.int .i64 0] 25 (0, 0))
  sv : Save p.Off w W
  sz : w.heap.size + 6 ≤ W.heap.size
/-- Where a write has stopped. -/
def SwX (w W : World) (p : Pl) (D : Dk) (l : List UInt8) (s at_ : Nat) (pre : List Pc) : Prop :=
  ∃ D' E, (∀ xs, wrP D l (pre ++ xs) = (D', E)) ∧ (∃ b, Leads (3 + 64 * s) (at_ + l.length) at_ pre b ∧ b ≤ at_ + l.length) ∧ DiskAt W (px p w.heap.size) D' ∧ W.heap[w.heap.size + 2]? = some (.cells #[.int .i64 E] 25 (0, 0)) ∧ Save p.Off w W ∧ w.heap.size + 6 ≤ W.heap.size
/-- What the loop's own blocks turn leaves both as they were. -/
theorem grown_off {w W W' : World} {p : Pl} {row : Option Nat} (hg : W.grownBy W' row) (hr : ∀ r, row = some r → r = w.heap.size + 4 ∨ (w.heap.size + 6 ≤ r ∧ ∃ o : Obj, W.heap[r]? = some o ∧ o.isCells = false)) : Save (fun k => k < w.heap.size ∧ p.Off k) W W' :=
  (Save.grown hg).less fun k _ hk e => by
    rcases hr k e.symm with h | ⟨h, _⟩ <;> (have := hk.1; omega)
theorem disk_off {w W W' : World} {p : Pl} {D : Dk} {row : Option Nat} (h : DiskAt W (px p w.heap.size) D) (hp : ∀ k, w.heap.size ≤ k → p.Off k) (hg : W.grownBy W' row) (hr : ∀ r, row = some r → r = w.heap.size + 4 ∨ (w.heap.size + 6 ≤ r ∧ ∃ o : Obj, W.heap[r]? = some o ∧ o.isCells = false)) : DiskAt W' (px p w.heap.size) D :=
  h.keep hg fun r e => by
    rcases hr r e with h | ⟨h, h2⟩
    · exact ⟨hp r (by omega), .inl (.inr ⟨by omega, by omega⟩)⟩
    · exact ⟨hp r (by omega), .inr h2⟩
theorem SwI.keep {w W W' : World} {p : Pl} {D : Dk} {l : List UInt8} {s at_ : Nat} {pre : List Pc} {row : Option Nat} (h : SwI w W p D l s at_ pre) (hp : ∀ k, w.heap.size ≤ k → p.Off k) (hg : W.grownBy W' row) (hr : ∀ r, row = some r → r = w.heap.size + 4 ∨ (w.heap.size + 6 ≤ r ∧ ∃ o : Obj, W.heap[r]? = some o ∧ o.isCells = false)) : SwI w W' p D l s at_ pre := by
  obtain ⟨D', m, a2, c2, b, h1, h2, h3, h4, h5, h6, h7, h8⟩ := h.st
  have hb : ∀ k, k < w.heap.size + 4 → k < W.heap.size → W'.heap[k]? = W.heap[k]? := fun k hk hl => hg.block k hl (fun e => by rcases hr k e.symm with h | ⟨h, _⟩ <;> omega)
  have hz := h.sz
  refine ⟨⟨D', m, a2, c2, b, h1, h2, h3, h4, disk_off h5 hp hg hr, (hb _ (by omega) (by omega)).trans h6, h7.save' (Save.grown hg) (fun hne g e e2 => ?_), h8⟩, (hb _ (by omega) (by omega)).trans h.d, (hb _ (by omega) (by omega)).trans h.e, save_on h.sv (grown_off hg hr), Nat.le_trans h.sz hg.size⟩
  have := (h8 hne g e).1
  rcases hr g e2.symm with h | ⟨h, _⟩ <;> omega
theorem SwX.keep {w W W' : World} {p : Pl} {D : Dk} {l : List UInt8} {s at_ : Nat} {pre : List Pc} {row : Option Nat} (h : SwX w W p D l s at_ pre) (hp : ∀ k, w.heap.size ≤ k → p.Off k) (hg : W.grownBy W' row) (hr : ∀ r, row = some r → r = w.heap.size + 4 ∨ (w.heap.size + 6 ≤ r ∧ ∃ o : Obj, W.heap[r]? = some o ∧ o.isCells = false)) : SwX w W' p D l s at_ pre := by
  obtain ⟨D', E, h1, h2, h3, h4, h5, h6⟩ := h
  have hb : ∀ k, k < w.heap.size + 4 → k < W.heap.size → W'.heap[k]? = W.heap[k]? := fun k hk hl => hg.block k hl (fun e => by rcases hr k e.symm with h | ⟨h, _⟩ <;> omega)
  exact ⟨D', E, h1, h2, disk_off h3 hp hg hr, (hb _ (by omega) (by omega)).trans h4, save_on h5 (grown_off hg hr), Nat.le_trans h6 hg.size⟩
/-- A piece's copy, told. -/
def swX (g lo hi n2 : Nat) (a2 : Option Addr) (c2 : Nat) (a5 : Option Addr) (c5 : Nat) (a9 : Option Addr) (n9 c9 : Nat) : Nat → Value
  | 40 => .slice a2 n2 c2
  | 41 => .slice a5 64 c5
  | 42 => .pointer (some ⟨g, 1, none⟩)
  | 43 => .int .i64 (lo : Int)
  | 44 => .pointer (some ⟨g, 2, none⟩)
  | 45 => .int .i64 (hi : Int)
  | 46 => .slice (if c5 = lo then a5 else a5.map (·.add (lo * 1))) (hi - lo) (c5 - lo)
  | 47 => .slice a2 n2 c2
  | 49 => .slice a9 n9 c9
  | _ => undef
def swY (B g : Nat) (a5 : Option Addr) (c5 : Nat) : Nat → Value
  | 7 => .pointer (some ⟨B + 1, 0, none⟩)
  | 10 => .pointer (some ⟨g, 0, none⟩)
  | 11 => .slice a5 64 c5
  | _ => undef
def swSt (w5 : World) (B z k : Nat) (a5 : Option Addr) (R : List UInt8) (c5 : Nat) (a9 : Option Addr) (n9 c9 : Nat) : List Value → World → Prop
  | [], wx => Cit.Alike w5 wx
  | [v], wx => v = .int .i64 (k : Int) ∧ Mine B wx a5 R c5 ∧ Save (fun j => Go.Cit.blk a5 ≠ some j) w5 wx
  | [_, _], wx => Mine B wx a5 R c5 ∧ Save (fun j => Go.Cit.blk a5 ≠ some j ∧ j ≠ z) w5 wx ∧ wx.heap[z]? = some (.cells #[.slice a9 n9 c9] 31 (0, 0))
  | _ :: _ :: _ :: _, _ => True
theorem swSt_cell {w5 wx : World} {B z k : Nat} {a5 a9 : Option Addr} {R : List UInt8} {c5 n9 c9 : Nat} {vs : List Value} (h : swSt w5 B z k a5 R c5 a9 n9 c9 vs wx) (hl : vs.length ≤ 2) {q : Addr} {v : Value} (hq : w5.cell? q = some v) (h1 : Go.Cit.blk a5 ≠ some q.block) (h2 : vs.length ≤ 1 ∨ q.block ≠ z) : wx.cell? q = some v := by
  have hlt := World.block_lt_of_cell? w5 _ hq
  match vs, h with
  | [], h => exact keep h.1 hq
  | [v], h => exact (h.2.2.cell hlt h1).trans hq
  | [_, _], h => exact (h.2.1.cell hlt ⟨h1, by rcases h2 with h2 | h2; simp at h2; exact h2⟩).trans hq
  | _ :: _ :: _ :: _, _ => simp at hl
theorem load_cell1 {P : Program} {T : TypeId} {w : World} {q : Addr} {v : Value} (hs : ∀ w, (isAgg T).run P w = .ok false w) (h : w.cell? q = some v) : (loadVar T q).run P w = .ok v w := by
  unfold loadVar
  simp [go_sem, hs, h, Result.andThen]
theorem results_cell1 {P : Program} {fn : Func} {t : Tmp} {ty : TypeId} (h : fn.results = #[.cell t ty]) (tmps : Array Value) (w : World) {q : Addr} {v : Value} (hp : tmps.getD t undef = .pointer (some q)) (hr : (loadVar ty q).run P w = .ok v w) : (results fn tmps).run P w = .ok v w := by
  have hp' : tmps[t]?.getD undef = .pointer (some q) := by simpa using hp
  simp [results, h, hp', asAddr, hr]
theorem agErr : ∀ w, (isAgg 25).run Tryz.prog w = .ok false w := by intro w; kernel_rfl
set_option maxRecDepth 100000 in
set_option maxHeartbeats 2000000 in
theorem swrite_good (w : World) (p : Pl) (D : Dk) (h : DiskAt w p D) (hu : D.up = true) (s at_ : Nat) (hs : s ≤ 1) (a : Option Addr) (l : List UInt8) (c : Nat) (hr : Row w a l c) (ha : l ≠ [] → ∀ g, Go.Cit.blk a = some g → p.Off g) (hal : at_ + l.length ≤ 4096) :
    Calls Tryz.prog 10 #[.pointer (some ⟨p.b, 0, none⟩), .int .i64 (s : Int), .int .i64 (at_ : Int), .slice a l.length c] w fun e w' => ∃ xs, Leads (3 + 64 * s) (at_ + l.length) at_ xs (at_ + l.length) ∧ e = .returned (.int .i64 (wrP D l xs).2) ∧ DiskAt w' p (wrP D l xs).1 ∧ Save p.Off w w' := by
  refine (callsIn_wide (n := 3)).1 ?_
  refine callsIn_of_wp_marks Tryz.func10 rfl trivial ?_ rfl
  simp only [Tryz.ntmps10, List.size_toArray, List.length_cons, List.length_nil, Nat.reduceAdd, Nat.reduceSub, Array.replicate_succ, Array.replicate_zero, List.push_toArray, List.append_toArray, List.nil_append, List.cons_append]
  have hll := hr.len_le
  have HH := Lib.hid h
  have HR := Lib.hid hr
  have HA := Lib.hid ha
  have HPO : Hid (∀ k, w.heap.size ≤ k → p.Off k) := fun k hk => by have := h.lt; exact ⟨by omega, by omega, by omega⟩
  have tl : ((l.length : Nat) : Int) ≤ 4096 := by omega
  gi_wp2
  obtain ⟨w3, hw3⟩ : ∃ w3, w3 = ((w.alloc (.cells #[.pointer (some ⟨p.b, 0, none⟩)] 24)).alloc (.cells #[.slice a l.length c] 31)).alloc (.cells #[.int .i64 0] 25) := ⟨_, rfl⟩
  have hB3 : Below w.heap.size w w3 := by rw [hw3]; exact (((Below.refl _ w).alloc (Nat.le_refl _) _).alloc (by simp) _).alloc (by simp; omega) _
  have hz3 : w3.heap.size = w.heap.size + 3 := by rw [hw3]; simp
  have bD : w3.heap[w.heap.size]? = some (.cells #[.pointer (some ⟨p.b, 0, none⟩)] 24 (0, 0)) := by
    rw [hw3]; exact ((Boxed.new w 24 (.pointer (some ⟨p.b, 0, none⟩))).alloc _).alloc _
  have bL : w3.heap[w.heap.size + 1]? = some (.cells #[.slice a l.length c] 31 (0, 0)) := by
    rw [hw3]
    have := Boxed.new (w.alloc (.cells #[.pointer (some ⟨p.b, 0, none⟩)] 24)) 31 (.slice a l.length c)
    rw [World.size_alloc] at this
    exact this.alloc _
  have bE : w3.heap[w.heap.size + 2]? = some (.cells #[.int .i64 0] 25 (0, 0)) := by
    rw [hw3]
    have := Boxed.new ((w.alloc (.cells #[.pointer (some ⟨p.b, 0, none⟩)] 24)).alloc (.cells #[.slice a l.length c] 31)) 25 (.int .i64 0)
    rw [World.size_alloc, World.size_alloc] at this
    exact this
  rw [← hw3]
  clear hw3
  have HB3 := Lib.hid hB3
  have HZ3 := Lib.hid hz3
  have HBD := Lib.hid bD
  have HBL := Lib.hid bL
  have HBE := Lib.hid bE
  have kD := cell_of_one bD
  have kL := cell_of_one bL
  have hrf := refused_calls w3 p D (HH.out.stay hB3) s at_ l.length (by omega) (by omega) (by omega)
  rw [show refE D.S.length s at_ l.length = 0 by rw [refE, if_neg (by have := HH.out.ok.pos; omega), if_neg (by omega), if_neg (by omega)]] at hrf
  have hup := up_calls w3 p D (HH.out.stay hB3)
  rw [hu] at hup
  clear hr h ha hB3 hz3 bD bL bE
  refine ⟨trivial, (callsIn_wide.2 hrf).mono ?_⟩
  rintro e w' ⟨rfl, rfl⟩
  gi_wp2
  refine ⟨trivial, (callsIn_wide.2 hup).mono ?_⟩
  rintro e w' ⟨rfl, rfl⟩
  gi_wp2
  refine ⟨trivial, (callsIn_wide.2 (spieces_calls _ _ _ _)).mono ?_⟩
  rintro e w' ⟨rfl, rfl⟩
  gi_wp2
  obtain ⟨w0, hw0⟩ : ∃ w0, w0 = ((w'.alloc (.cells #[.int .i64 (s : Int)] 3)).alloc (.cells #[.int .i64 (at_ : Int)] 3)).alloc (.cells #[.int .i64 (l.length : Int)] 3) := ⟨_, rfl⟩
  have hB0 : Below w'.heap.size w' w0 := by rw [hw0]; exact (((Below.refl _ w').alloc (Nat.le_refl _) _).alloc (by simp) _).alloc (by simp; omega) _
  have hz0 : w0.heap.size = w.heap.size + 6 := by rw [hw0]; simp; have := HZ3.out; omega
  have bS : w0.heap[w'.heap.size]? = some (.cells #[.int .i64 (s : Int)] 3 (0, 0)) := by
    rw [hw0]; exact ((Boxed.new w' 3 (.int .i64 (s : Int))).alloc _).alloc _
  have bA : w0.heap[w'.heap.size + 1]? = some (.cells #[.int .i64 (at_ : Int)] 3 (0, 0)) := by
    rw [hw0]
    have := Boxed.new (w'.alloc (.cells #[.int .i64 (s : Int)] 3)) 3 (.int .i64 (at_ : Int))
    rw [World.size_alloc] at this
    exact this.alloc _
  have bN : w0.heap[w'.heap.size + 2]? = some (.cells #[.int .i64 (l.length : Int)] 3 (0, 0)) := by
    rw [hw0]
    have := Boxed.new ((w'.alloc (.cells #[.int .i64 (s : Int)] 3)).alloc (.cells #[.int .i64 (at_ : Int)] 3)) 3 (.int .i64 (l.length : Int))
    rw [World.size_alloc, World.size_alloc] at this
    exact this
  rw [← hw0]
  clear hw0
  refine wpIn_range_stops rfl (by decide) (gf := 58) (lb := #[.pointer (some ⟨w'.heap.size + 1, 0, none⟩), .pointer (some ⟨w'.heap.size + 2, 0, none⟩), .pointer (some ⟨w'.heap.size, 0, none⟩)]) rfl trivial (enters_of Tryz.func58 (by kernel_rfl) rfl)
    (C := (· = w'.heap.size + 1)) (fun c hc => by have := HZ3.out; omega)
    (sp_stops (3 - 1) w0 (w'.heap.size + 1) (w'.heap.size + 2) w'.heap.size s at_ l.length hs hal (by omega) (by omega) bA bN bS)
    (fun h k => Save.trans h k) (fun W L o o' hL ho hc => ⟨rfl, rfl, rfl, by simp, fun k _ hk => World.putObj_heap_other (by have := HZ3.out; omega)⟩) (fun x => rfl)
    (fun pre W => SwI w W p D l s at_ pre) (fun pre W => SwX w W p D l s at_ pre) ?I ?Ix ?h0
    (fun pre x a' W => SwI w W p D l s at_ pre ∧ (∃ b, Leads (3 + 64 * s) (at_ + l.length) at_ pre b ∧ b < at_ + l.length ∧ x = pcAt (3 + 64 * s) (at_ + l.length) b) ∧ ∃ g, a' = swF p s at_ l.length a c w.heap.size w'.heap.size (.pointer (some ⟨g, 0, none⟩)) x.v ∧ w0.heap.size ≤ g ∧ W.heap[g]? = some (.cells #[.int .i64 (x.sec : Int), .int .i64 (x.lo : Int), .int .i64 (x.hi : Int)] 76 (0, 0))) ?Ax ?assign ?body ?done ?stop
  case I => exact fun pre W W' row hI hg hr => hI.keep HPO.out hg (fun r e => by rcases hr r e with h | h; exact .inl (by have := HZ3.out; omega); exact .inr ⟨by rw [← hz0]; exact h.1, h.2⟩)
  case Ix => exact fun pre W W' row hI hg hr => SwX.keep hI HPO.out hg (fun r e => by rcases hr r e with h | h; exact .inl (by have := HZ3.out; omega); exact .inr ⟨by rw [← hz0]; exact h.1, h.2⟩)
  case h0 =>
    have hbw := HB3.out.trans (hB0.mono HB3.out.size)
    refine ⟨⟨D, l, a, c, at_, Cont.nil _ _, rfl, by omega, by omega, ?_, (hB0.block _ (by have := HZ3.out; omega)).trans HBL.out, HR.out.stay hbw, fun hne g e => ⟨?_, HA.out hne g e⟩⟩, (hB0.block _ (by have := HZ3.out; omega)).trans HBD.out, (hB0.block _ (by have := HZ3.out; omega)).trans HBE.out, Save.of hbw, by omega⟩
    · have := HH.out.more hbw
      rwa [hz0] at this
    · obtain ⟨g2, off, e2⟩ := HR.out.spot hne
      have hrow := HR.out
      rw [e2] at e hrow
      have e3 : g2 = g := by simpa [Go.Cit.blk] using e
      have := hrow.blk (i := 0) (List.length_pos_iff.2 hne)
      simp [ad] at this
      omega
  case Ax =>
    rintro pre x a' W L o o' hL ho hc ⟨h1, h2, g, h3, h4, h5⟩
    refine ⟨h1.keep HPO.out (grownBy_putObj' W L o') (fun r e => by cases e; exact .inr ⟨by rw [← hz0]; exact hL, o, ho, hc⟩), h2, g, h3, h4, (World.putObj_heap_other (fun e => ?_)).trans h5⟩
    subst e
    rw [h5] at ho
    cases ho
    simp [Obj.isCells] at hc
  case assign =>
    intro L pre x W K hI hN hx hK
    gi_wp2
    have hz := hI.sz
    have hal2 : Below W.heap.size W (W.alloc (.cells #[.int .i64 (x.sec : Int), .int .i64 (x.lo : Int), .int .i64 (x.hi : Int)] 76)) := (Below.refl _ W).alloc (Nat.le_refl _) _
    exact hK _ _ ⟨hal2.size, fun k o _ ho _ => (hal2.block k (Array.getElem?_eq_some_iff.1 ho).1).trans ho⟩ (Save.of hal2) ⟨hI.keep HPO.out (World.grownBy_alloc W _ none) (fun r e => by cases e), hx, W.heap.size, rfl, by omega, World.alloc_heap_new W _⟩
  case body =>
    rintro L pre x a' W ⟨hI, ⟨b, hL, hb, hx⟩, g, rfl, hg0, hgc⟩
    obtain ⟨D', m, a2, c2, b', h1, h2, h3, h4, h5, h6, h7, h8⟩ := hI.st
    obtain rfl : b' = b := h2.uniq hL
    obtain ⟨q1, q2, q3, q4⟩ := pc_in (base := 3 + 64 * s) hb
    rw [← hx] at q1 q2 q3 q4
    have hsec : x.sec ≤ 130 := by rw [hx]; show 3 + 64 * s + b' / 64 ≤ 130; omega
    have HI := Lib.hid hI
    have HGC := Lib.hid hgc
    have H1 := Lib.hid h1
    have H2 := Lib.hid h2
    have H5 := Lib.hid h5
    have H6 := Lib.hid h6
    have H7 := Lib.hid h7
    have H8 := Lib.hid h8
    have k0 : W.cell? ⟨g, 0, none⟩ = some (.int .i64 (x.sec : Int)) := by rw [World.cell?, hgc]; rfl
    have k4 := cell_of_one hI.d
    have hrd := read_calls W (px p w.heap.size) D' h5 x.sec
    by_cases hre : readE D' x.sec = 0
    · have hin : D'.up = true ∧ x.sec < D'.S.length := by
        unfold readE at hre
        split at hre
        · exact absurd hre (by decide)
        · rename_i hu2
          split at hre
          · rename_i h9; exact ⟨by simpa using hu2, by omega⟩
          · exact absurd hre (by decide)
      have hRR : readR D' x.sec = getR D' x.sec := by rw [readR, if_pos ⟨hin.1, by omega, by omega⟩, Int.toNat_natCast]
      have h64 : (getR D' x.sec).length = 64 := h5.ok.get hin.2
      obtain ⟨R, hR⟩ : ∃ R, Hid (R = getR D' x.sec) := ⟨_, rfl⟩
      rw [hre, hRR, ← hR.out] at hrd
      rw [← hR.out] at h64
      rw [h64] at hrd
      have H64 := Lib.hid h64
      have HE : Hid (stepE D' x = writeE D' x.sec 64 ∧ stepT D' m x = writeT D' x.sec (patchL R x.lo (m.take (x.hi - x.lo)))) := ⟨by rw [stepE, if_neg (by rw [hre]; decide)], by rw [stepT, if_neg (by rw [hre]; decide), hR.out]⟩
      have HX := Lib.hid hx
      have HQ := Lib.hid (And.intro q1 (And.intro q2 (And.intro q3 q4)))
      have HML : Hid (m.length = at_ + l.length - b') := h4
      have hml : m.length ≤ 4096 := by omega
      clear hI h1 h2 h5 h6 h7 h8 hrf hup kD kL bS bA bN hx h64 hRR hin hre q1 q2 q3 q4 hgc
      unfold swF
      gi_wp2
      refine ⟨trivial, (CallsIn.inRound L (callsIn_wide.2 hrd)).mono ?_⟩
      rintro e w5 ⟨a5, c5, rfl, hM5, hb5⟩
      have HM5 := Lib.hid hM5
      have HB5 := Lib.hid hb5
      have HR5 := Lib.hid (H7.out.stay hb5)
      clear hM5 hb5 hrd k0 k4
      have t0 : ((0 : Int) == 0) = true := rfl
      gi_wp2
      obtain ⟨a9, m9, c9, hm9, hrun9, hr9, hb9⟩ := HR5.out.from2 bt.slice bt.sz (x.hi - x.lo) (by have := HQ.out.2.2.1; rw [HML.out]; exact this)
      have HM9 := Lib.hid hm9
      have HRUN := Lib.hid hrun9
      have HR9 := Lib.hid hr9
      have HB9 := Lib.hid hb9
      have hz := HI.out.sz
      have HG5 := Lib.hid ((HB5.out.block _ (Array.getElem?_eq_some_iff.1 HGC.out).1).trans HGC.out)
      have HT5 := Lib.hid ((HB5.out.block _ (Array.getElem?_eq_some_iff.1 H6.out).1).trans H6.out)
      have HN5 : Hid (∀ j, j < W.heap.size → Go.Cit.blk a5 ≠ some j) := fun j hj e => by have := HM5.out.new j e; omega
      have hgW : g < W.heap.size := (Array.getElem?_eq_some_iff.1 HGC.out).1
      have HGW := Lib.hid hgW
      have htW : w.heap.size + 1 < W.heap.size := by omega
      clear hm9 hrun9 hr9 hb9
      refine region_line_round (swX g x.lo x.hi m.length a2 c2 a5 c5 a9 m9.length c9) (swY w.heap.size g a5 c5) [7, 10, 11] [8, 10] (swSt w5 W.heap.size (w.heap.size + 1) (x.hi - x.lo) a5 (patchL R x.lo (m.take (x.hi - x.lo))) c5 a9 m9.length c9) (by kernel_rfl) (by kernel_rfl) (fun _ _ h => h) (by kernel_rfl) (by kernel_rfl) ⟨rfl, rfl, rfl, trivial⟩ (fun _ h => h) ?_ ?_
      · refine opsAll_cons ?_ (opsAll_cons ?_ (opsAll_cons ?_ (opsAll_cons ?_ (opsAll_cons ?_ (opsAll_cons ?_ (opsAll_cons ?_ (opsAll_cons ?_ (opsAll_cons ?_ (opsAll_cons ?_ (opsAll_cons ?_ opsAll_nil))))))))))
        all_goals intro a_ vs hk
        · exact ⟨wanted_free rfl, .inr ⟨by decide, fun s1 s2 hle wx hst => gp_load (.tmp 7) rfl (show a_.eval (.tmp 7) = (.pointer (some ⟨w.heap.size + 1, 0, none⟩)) from hk.old 7 (by kernel_rfl)) (v := .slice a2 m.length c2) (load_at (fun w => by kernel_rfl) (swSt_cell hst hle (cell_of_one HT5.out) (HN5.out _ htW) (.inl (s2 1 10 rfl (by kernel_rfl))))) ⟨rfl, rfl⟩⟩⟩
        · exact ⟨wanted_free rfl, .inr ⟨by decide, fun s1 s2 hle wx hst => gp_move (.tmp 11) rfl ⟨rfl, (show a_.eval (.tmp 11) = (.slice a5 64 c5) from hk.old 11 (by kernel_rfl))⟩⟩⟩
        · exact ⟨wanted_free rfl, .inr ⟨by decide, fun s1 s2 hle wx hst => gp_field (.tmp 10) rfl (show a_.eval (.tmp 10) = (.pointer (some ⟨g, 0, none⟩)) from hk.old 10 (by kernel_rfl)) (v := (.pointer (some ⟨g, 1, none⟩))) (fun w => by kernel_rfl) ⟨rfl, rfl⟩⟩⟩
        · exact ⟨wanted_free rfl, .inr ⟨by decide, fun s1 s2 hle wx hst => gp_load (.tmp 42) rfl (show a_.eval (.tmp 42) = (.pointer (some ⟨g, 1, none⟩)) from hk.slot 42 (by kernel_rfl) (by kernel_rfl)) (v := .int .i64 (x.lo : Int)) (load_at (fun w => by kernel_rfl) (swSt_cell hst hle (by rw [World.cell?, HG5.out]; rfl) (HN5.out _ HGW.out) (.inr (by show g ≠ _; omega)))) ⟨rfl, rfl⟩⟩⟩
        · exact ⟨wanted_free rfl, .inr ⟨by decide, fun s1 s2 hle wx hst => gp_field (.tmp 10) rfl (show a_.eval (.tmp 10) = (.pointer (some ⟨g, 0, none⟩)) from hk.old 10 (by kernel_rfl)) (v := (.pointer (some ⟨g, 2, none⟩))) (fun w => by kernel_rfl) ⟨rfl, rfl⟩⟩⟩
        · exact ⟨wanted_free rfl, .inr ⟨by decide, fun s1 s2 hle wx hst => gp_load (.tmp 44) rfl (show a_.eval (.tmp 44) = (.pointer (some ⟨g, 2, none⟩)) from hk.slot 44 (by kernel_rfl) (by kernel_rfl)) (v := .int .i64 (x.hi : Int)) (load_at (fun w => by kernel_rfl) (swSt_cell hst hle (by rw [World.cell?, HG5.out]; rfl) (HN5.out _ HGW.out) (.inr (by show g ≠ _; omega)))) ⟨rfl, rfl⟩⟩⟩
        · exact ⟨wanted_free rfl, .inr ⟨by decide, fun s1 s2 hle wx hst => gp_slice rfl (show a_.eval (.tmp 41) = (.slice a5 64 c5) from hk.slot 41 (by kernel_rfl) (by kernel_rfl)) (congrArg some (show a_.eval (.tmp 43) = .int .i64 (x.lo : Int) from hk.slot 43 (by kernel_rfl) (by kernel_rfl))) (congrArg some (show a_.eval (.tmp 45) = .int .i64 (x.hi : Int) from hk.slot 45 (by kernel_rfl) (by kernel_rfl))) rfl (by have h9 := Row.mid bt.slice bt.sz HM5.out.row x.lo x.hi (Nat.le_of_lt HQ.out.1) (by rw [H64.out]; exact HQ.out.2.1); rw [H64.out] at h9; exact h9) ⟨rfl, rfl⟩⟩⟩
        · exact ⟨wanted_free rfl, .inr ⟨by decide, fun s1 s2 hle wx hst => gp_load (.tmp 7) rfl (show a_.eval (.tmp 7) = (.pointer (some ⟨w.heap.size + 1, 0, none⟩)) from hk.old 7 (by kernel_rfl)) (v := .slice a2 m.length c2) (load_at (fun w => by kernel_rfl) (swSt_cell hst hle (cell_of_one HT5.out) (HN5.out _ htW) (.inl (s2 1 10 rfl (by kernel_rfl))))) ⟨rfl, rfl⟩⟩⟩
        · refine ⟨wanted_free rfl, .inl ⟨0, rfl, fun hvs wx hst => ?_⟩⟩
          obtain rfl : vs = [] := List.eq_nil_of_length_eq_zero hvs
          obtain ⟨w6, h6a, h6b, h6c⟩ := copy_mine (dT := 31) (sT := 31) (ty := 3) (P := Tryz.prog) bt.slice (by kernel_rfl) (HM5.out.stay hst.1) x.lo x.hi HQ.out.1 (by rw [H64.out]; exact HQ.out.2.1) (HR5.out.stay hst.1) (by have := HQ.out.2.2.1; rw [HML.out]; exact this)
          exact gp_copy (.tmp 46) (.tmp 47) rfl (hk.slot 46 (by kernel_rfl) (by kernel_rfl)) (hk.slot 47 (by kernel_rfl) (by kernel_rfl)) h6a ⟨rfl, h6b, (Save.of hst.1).trans h6c⟩
        · refine ⟨wanted_free rfl, .inr ⟨by decide, fun s1 s2 hle wx hst => ?_⟩⟩
          have hv : ∃ v, vs[0]? = some v ∧ v = .int .i64 ((x.hi - x.lo : Nat) : Int) := by
            have h0 := s1 0 8 rfl (by kernel_rfl)
            have h1 := s2 1 10 rfl (by kernel_rfl)
            match vs, h0, h1, hst with
            | [v], _, _, hst => exact ⟨v, rfl, hst.1⟩
            | [], h0, _, _ => exact absurd h0 (by decide)
            | _ :: _ :: _, _, h1, _ => simp at h1
          obtain ⟨v, hv1, rfl⟩ := hv
          exact gp_slice rfl (show a_.eval (.tmp 40) = (.slice a2 m.length c2) from hk.slot 40 (by kernel_rfl) (by kernel_rfl)) (congrArg some (show a_.eval (.tmp 48) = .int .i64 ((x.hi - x.lo : Nat) : Int) from hk.line 0 48 _ hv1 (by kernel_rfl))) rfl rfl HRUN.out ⟨rfl, rfl⟩
        · refine ⟨wanted_free rfl, .inl ⟨1, rfl, fun hvs wx hst => ?_⟩⟩
          match vs, hvs, hst with
          | [v], _, hst =>
            have hc := (hst.2.2.block _ (Nat.lt_of_lt_of_le htW HB5.out.size) (HN5.out _ htW)).trans HT5.out
            exact gp_store (.tmp 7) (.tmp 49) rfl (hk.old 7 (by kernel_rfl)) (hk.slot 49 (by kernel_rfl) (by kernel_rfl)) (store_slice (fun w => by kernel_rfl) (cell_of_one hc) (free_of_one hc)) ⟨hst.2.1.save Save.set (fun j hj e => HN5.out _ htW (by rw [← e]; exact hj)), (hst.2.2.less (fun _ _ h => h.1)).trans (Save.set.less (fun _ _ h => h.2)), one_setCell hc⟩
      intro a_ vs wz hlen9 hfin hsame hall hline
      have he := act_same hsame [40, 41, 42, 43, 44, 45, 46, 47, 48, 49] (by kernel_rfl)
      simp only [List.foldl_cons, List.foldl_nil] at he
      generalize a_.eval (.tmp 40) = y40 at he
      generalize a_.eval (.tmp 41) = y41 at he
      generalize a_.eval (.tmp 42) = y42 at he
      generalize a_.eval (.tmp 43) = y43 at he
      generalize a_.eval (.tmp 44) = y44 at he
      generalize a_.eval (.tmp 45) = y45 at he
      generalize a_.eval (.tmp 46) = y46 at he
      generalize a_.eval (.tmp 47) = y47 at he
      generalize a_.eval (.tmp 48) = y48 at he
      generalize a_.eval (.tmp 49) = y49 at he
      simp only [put_lit] at he
      dsimp only [List.set_cons_zero, List.set_cons_succ] at he
      subst he
      clear hsame hall hline
      have hfin2 : Mine W.heap.size wz a5 (patchL R x.lo (m.take (x.hi - x.lo))) c5 ∧ Save (fun j => Go.Cit.blk a5 ≠ some j ∧ j ≠ w.heap.size + 1) w5 wz ∧ wz.heap[w.heap.size + 1]? = some (.cells #[.slice a9 m9.length c9] 31 (0, 0)) := by
        match vs, hlen9, hfin with
        | [v1, v2], _, hfin => exact hfin
      obtain ⟨hf1, hf2, hf3⟩ := hfin2
      clear hfin hlen9
      have hkl : (m.take (x.hi - x.lo)).length = x.hi - x.lo := by rw [List.length_take]; have := HQ.out.2.2.1; have := HML.out; omega
      have hpl : (patchL R x.lo (m.take (x.hi - x.lo))).length = 64 := by rw [patch_len, H64.out]; rw [hkl, H64.out]; have := HQ.out.1; have := HQ.out.2.1; omega
      have HDM := Lib.hid (H5.out.more HB5.out)
      have hg5 : ∀ k, Go.Cit.blk a5 = some k → W.heap.size ≤ k ∧ k < w5.heap.size := fun k e => by
        refine ⟨HM5.out.new k e, ?_⟩
        have hrow := HM5.out.row
        obtain ⟨g2, off, e2⟩ := hrow.spot (by intro h0; have := H64.out; rw [h0] at this; simp at this)
        rw [e2] at e hrow
        have e3 : g2 = k := by simpa [Go.Cit.blk] using e
        have := hrow.blk (i := 0) (by rw [H64.out]; decide)
        simp [ad] at this
        omega
      have HDZ : Hid (DiskAt wz (px p w.heap.size) D') := (HDM.out.saveX hf2 (fun k hk => by
          have hkw : k < w.heap.size := Nat.lt_of_not_le fun h9 => hk (HPO.out k h9)
          exact ⟨HN5.out k (by omega), by omega⟩) (fun k hk => ⟨fun e => hk (.inr (hg5 k e)), fun e => hk (.inl (.inr ⟨by omega, by omega⟩))⟩)).less (fun k hk => .inl hk)
      have hwr := write_calls wz (px p w.heap.size) D' HDZ.out x.sec a5 _ c5 hf1.row (fun _ k e => HPO.out k (by have := (hg5 k e).1; omega))
      rw [hpl] at hwr
      have HSZ : Hid (Save (fun k => k < W.heap.size ∧ p.Off k ∧ k ≠ w.heap.size + 1) W wz) := (Save.of HB5.out).trans (hf2.less fun k _ hk => ⟨HN5.out k hk.1, hk.2.2⟩)
      have HS5 : Hid (Save (fun k => k < W.heap.size ∧ p.Off k ∧ k ≠ w.heap.size + 1) w5 wz) := hf2.less fun k _ hk => ⟨HN5.out k hk.1, hk.2.2⟩
      have HFT := Lib.hid hf3
      have hz4 := (HSZ.out.block _ (Array.getElem?_eq_some_iff.1 HI.out.d).1 ⟨by omega, HPO.out _ (Nat.le_refl _), by omega⟩).trans HI.out.d
      have hzg := (HSZ.out.block g HGW.out ⟨HGW.out, HPO.out g (by omega), by omega⟩).trans HGC.out
      have k4 := cell_of_one hz4
      have k0 : wz.cell? ⟨g, 0, none⟩ = some (.int .i64 (x.sec : Int)) := by rw [World.cell?, hzg]; rfl
      obtain ⟨E, hE⟩ : ∃ E, Hid (E = writeE D' x.sec 64) := ⟨_, rfl⟩
      rw [← hE.out] at hwr HE
      obtain ⟨D2, hD2⟩ : ∃ D2, Hid (D2 = writeT D' x.sec (patchL R x.lo (m.take (x.hi - x.lo)))) := ⟨_, rfl⟩
      rw [← hD2.out] at hwr HE
      clear hf1 hf2 hf3 hkl hz4 hzg hg5
      gi_wp2
      refine ⟨trivial, (CallsIn.inRound L (callsIn_wide.2 hwr)).mono ?_⟩
      rintro e w8 ⟨rfl, hD8, hs8⟩
      have HD8 := Lib.hid hD8
      have HSV : Hid (Save (fun k => p.Off k ∧ k ≠ w.heap.size + 1) W w8) := (HSZ.out.trans (hs8.less fun k _ hk => hk.2.1)).less (fun k h9 hk => ⟨h9, hk⟩)
      have HS8 : Hid (Save (fun k => k < W.heap.size ∧ p.Off k ∧ k ≠ w.heap.size + 1) w5 w8) := HS5.out.trans (hs8.less fun k _ hk => hk.2.1)
      have HT8 := Lib.hid ((hs8.block _ (Array.getElem?_eq_some_iff.1 HFT.out).1 (HPO.out _ (by omega))).trans HFT.out)
      have HE8 := Lib.hid ((HSV.out.block _ (Array.getElem?_eq_some_iff.1 HI.out.e).1 ⟨HPO.out _ (by omega), by omega⟩).trans HI.out.e)
      have ke8 := cell_of_one HE8.out
      have fe8 := free_of_one HE8.out
      clear hD8 hs8 hwr k4 k0
      by_cases hE0 : E = 0
      · subst hE0
        gi_wp2
        have hm0 : m9 ≠ [] → m ≠ [] := fun hne h0 => hne (by rw [HM9.out, h0, List.drop_nil])
        have hcon := H1.out.add x (by rw [HE.out.1])
        rw [HE.out.2, ← HM9.out] at hcon
        have hq := HQ.out
        refine ⟨⟨HSV.out.size, fun k o hk ho _ => (HSV.out.block k (Array.getElem?_eq_some_iff.1 ho).1 ⟨HPO.out k (by omega), by omega⟩).trans ho⟩, HSV.out.less (fun k _ hk => ?_), ⟨⟨D2, m9, a9, c9, pcNext (at_ + l.length) b', hcon, by rw [HX.out]; exact H2.out.snoc hb, (pcNext_le hb).2, ?_, HD8.out, HT8.out, HR9.out.save' HS8.out (fun hne j e => ?_), fun hne j e => H8.out (hm0 hne) j (HB9.out ▸ e)⟩, (HSV.out.block _ (Array.getElem?_eq_some_iff.1 HI.out.d).1 ⟨HPO.out _ (Nat.le_refl _), by omega⟩).trans HI.out.d, HE8.out, save_on HI.out.sv (HSV.out.less (fun k _ hk => ⟨hk.2, by have := hk.1; omega⟩)), Nat.le_trans hz HSV.out.size⟩⟩
        · have := HZ3.out
          rcases hk with rfl | rfl | rfl <;> exact ⟨HPO.out _ (by omega), by omega⟩
        · rw [HM9.out, List.length_drop, HML.out, hq.2.2.2]; omega
        · have := H8.out (hm0 hne) j (HB9.out ▸ e)
          exact ⟨by omega, this.2, by omega⟩
      · have t9 : (E == 0) = false := by simp [hE0]
        gi_wp2
        have hsw : Save (· ≠ w.heap.size + 2) w8 (w8.setCell ⟨w.heap.size + 1 + 1, 0, none⟩ (.int .i64 E)) := Save.set
        refine ⟨⟨Nat.le_trans HSV.out.size hsw.size, fun k o hk ho _ => ?_⟩, D2, E, fun xs => ?_, ⟨pcNext (at_ + l.length) b', ?_, ?_⟩, ?_, one_setCell HE8.out, ?_, ?_⟩
        · have hkl := (Array.getElem?_eq_some_iff.1 ho).1
          exact (hsw.block k (Nat.lt_of_lt_of_le hkl HSV.out.size) (by omega)).trans ((HSV.out.block k hkl ⟨HPO.out k (by omega), by omega⟩).trans ho)
        · rw [H1.out.stop x (by rw [HE.out.1]; exact hE0), HE.out.1, HE.out.2]
        · rw [HX.out]; exact H2.out.snoc hb
        · exact (pcNext_le hb).2
        · exact HD8.out.saveX hsw (fun k hk e => hk (HPO.out k (by omega))) (fun k hk e => hk (.inr ⟨by omega, by omega⟩))
        · refine save_on HI.out.sv ((HSV.out.less fun k _ hk => ⟨hk.2, by have := hk.1; omega⟩).trans (hsw.less fun k _ hk e => ?_))
          have := hk.1; omega
        · exact Nat.le_trans hz (Nat.le_trans HSV.out.size hsw.size)
    · have HE : Hid (stepE D' x = readE D' x.sec ∧ stepT D' m x = D') := ⟨by rw [stepE, if_pos hre], by rw [stepT, if_pos hre]⟩
      obtain ⟨E, hE⟩ : ∃ E, Hid (E = readE D' x.sec) := ⟨_, rfl⟩
      rw [← hE.out] at hrd HE hre
      have t0 : (E == 0) = false := by simp [hre]
      have HX := Lib.hid hx
      clear hI hgc h1 h2 h5 h6 h7 h8 hrf hup kD kL bS bA bN hx
      unfold swF
      gi_wp2
      refine ⟨trivial, (CallsIn.inRound L (callsIn_wide.2 hrd)).mono ?_⟩
      rintro e w5 ⟨a5, c5, rfl, hM5, hb5⟩
      have hE5 := (hb5.block _ (Array.getElem?_eq_some_iff.1 HI.out.e).1).trans HI.out.e
      have ke5 := cell_of_one hE5
      have fe5 := free_of_one hE5
      have HB5 := Lib.hid hb5
      have HE5 := Lib.hid hE5
      clear hM5 hb5 hE5 hrd k0 k4
      gi_wp2
      have hsw : Save (· ≠ w.heap.size + 2) w5 (w5.setCell ⟨w.heap.size + 1 + 1, 0, none⟩ (.int .i64 E)) := Save.set
      have hz := HI.out.sz
      refine ⟨⟨Nat.le_trans HB5.out.size hsw.size, fun k o hk ho _ => ?_⟩, D', E, fun xs => ?_, ⟨pcNext (at_ + l.length) b', ?_, ?_⟩, ?_, one_setCell HE5.out, ?_, ?_⟩
      · have hkl := (Array.getElem?_eq_some_iff.1 ho).1
        exact (hsw.block k (Nat.lt_of_lt_of_le hkl HB5.out.size) (by omega)).trans ((HB5.out.block k hkl).trans ho)
      · rw [H1.out.stop x (by rw [HE.out.1]; exact hre), HE.out.1, HE.out.2]
      · rw [HX.out]; exact H2.out.snoc hb
      · exact (pcNext_le hb).2
      · exact (H5.out.stay HB5.out).saveX hsw (fun k hk e => hk (HPO.out k (by omega))) (fun k hk e => hk (.inr ⟨by omega, by omega⟩))
      · refine save_on HI.out.sv ((Save.of HB5.out).trans (hsw.less fun k _ hk e => ?_))
        have := hk.1; omega
      · exact Nat.le_trans hz (Nat.le_trans HB5.out.size hsw.size)
  case done =>
    intro Dd xs W hDd hS hI hK
    obtain ⟨D', m, a2, c2, b, h1, h2, h3, h4, h5, h6, h7, h8⟩ := hI.st
    have ke := cell_of_one hI.e
    have fe := free_of_one hI.e
    gi_wp2
    have hsw : Save (· ≠ w.heap.size + 2) W (W.setCell ⟨w.heap.size + 1 + 1, 0, none⟩ (.int .i64 0)) := Save.set
    have hK2 : (W.setCell ⟨w.heap.size + 1 + 1, 0, none⟩ (.int .i64 0)).heap[Dd]? = some (.deferred (some [])) := (hsw.block _ (Array.getElem?_eq_some_iff.1 hK).1 (by omega)).trans hK
    have he2 : (W.setCell ⟨w.heap.size + 1 + 1, 0, none⟩ (.int .i64 0)).cell? ⟨w.heap.size + 1 + 1, 0, none⟩ = some (.int .i64 0) := cell_of_one (one_setCell hI.e)
    generalize W.setCell ⟨w.heap.size + 1 + 1, 0, none⟩ (.int .i64 0) = W2 at hsw hK2 he2
    refine ⟨by simp, .inl ⟨_, _, rfl, run_takeDeferred hK2, ?_⟩⟩
    have hg : W2.grownBy (W2.putObj Dd (.deferred none)) (some Dd) := grownBy_putObj' W2 Dd _
    have hDd : w.heap.size + 6 ≤ Dd := by omega
    have h5b := h5.saveX hsw (fun k hk e => hk (HPO.out k (by omega))) (fun k hk e => hk (.inr ⟨by omega, by omega⟩))
    have h5c := h5b.keep hg (fun r e => by cases e; exact ⟨HPO.out _ (by omega), .inr ⟨_, hK2, rfl⟩⟩)
    have he3 : (W2.putObj Dd (.deferred none)).cell? ⟨w.heap.size + 1 + 1, 0, none⟩ = some (.int .i64 0) := by
      rw [World.cell?_of_block (w := W2)]
      · exact he2
      · exact World.putObj_heap_other (by show w.heap.size + 1 + 1 ≠ Dd; omega)
    have hall := h1.all
    refine ⟨_, results_cell1 rfl _ _ rfl (load_cell1 agErr he3), xs, hS, by rw [hall], ?_, ?_⟩
    · rw [hall]
      exact h5c.less (fun k hk => .inl hk)
    · refine save_on hI.sv (((hsw.less fun k _ hk e => ?_).trans ((Save.grown hg).less fun k _ hk e => ?_)))
      · have := hk.1; omega
      · cases e; have := hk.1; omega
  case stop =>
    intro Dd pre W hDd _ hX hK
    obtain ⟨D', E, h1, ⟨b, h2, h2b⟩, h3, h4, h5, h6⟩ := hX
    refine ⟨by simp [swF], .inl ⟨_, _, rfl, run_takeDeferred hK, ?_⟩⟩
    have hg : W.grownBy (W.putObj Dd (.deferred none)) (some Dd) := grownBy_putObj' W Dd _
    have hDd : w.heap.size + 6 ≤ Dd := by omega
    have h3c := h3.keep hg (fun r e => by cases e; exact ⟨HPO.out _ (by omega), .inr ⟨_, hK, rfl⟩⟩)
    have he3 : (W.putObj Dd (.deferred none)).cell? ⟨w.heap.size + 1 + 1, 0, none⟩ = some (.int .i64 E) := by
      rw [World.cell?_of_block (w := W)]
      · exact cell_of_one h4
      · exact World.putObj_heap_other (by show w.heap.size + 1 + 1 ≠ Dd; omega)
    obtain ⟨ys, hys⟩ := Leads.exist (3 + 64 * s) (at_ + l.length) _ b (Nat.le_refl _) h2b
    refine ⟨_, results_cell1 rfl _ _ rfl (load_cell1 agErr he3), pre ++ ys, h2.append hys, by rw [h1], ?_, ?_⟩
    · rw [h1]
      exact h3c.less (fun k hk => .inl hk)
    · refine save_on h5 ((Save.grown hg).less fun k _ hk e => ?_)
      cases e; have := hk.1; omega
end Go.Proofs.YtofagofpeedfcaaGreat
