/- Chapter 15: slot.Read: walked. -/
import Derived.Test.YtofagofpeedfcaaGreatSlot4
namespace Go.Proofs.YtofagofpeedfcaaGreat
open Go Go.RowKit Go.Cit Go.Shelf
attribute [local go_sem] Oper.semAt_some

/-- What a slot's bytes are read as, piece by piece, till one fails. -/
def rdP (D : Dk) : List UInt8 → List Pc → List UInt8 × Int
  | acc, [] => (acc, 0)
  | acc, x :: xs => if readE D x.sec ≠ 0 then ([], readE D x.sec) else rdP D (acc ++ ((readR D x.sec).take x.hi).drop x.lo) xs
/-- The frame of a round. -/
def srF (p : Pl) (s n B z : Nat) (v10 v26 : Value) : Act := { tmps := #[.pointer (some ⟨p.b, 0, none⟩), .int .i64 (s : Int), .int .i64 (n : Int), .pointer (some ⟨B, 0, none⟩), undef, undef, .pointer (some ⟨B + 1, 0, none⟩), .pointer (some ⟨B + 1 + 1, 0, none⟩), .int .i64 0, .pointer (some ⟨z, 0, none⟩), v10, undef, undef,
  .pointer (some ⟨p.b, 0, none⟩), .int .i64 (s : Int), .int .i64 (n : Int), .int .i64 0, .int .i64 0, .bool false, undef, .pointer (some ⟨p.b, 0, none⟩), .bool true, .bool false, .int .i64 (s : Int), .int .i64 (n : Int),
  .func (.func 58) #[] #[.pointer (some ⟨z + 1 + 1, 0, none⟩), .pointer (some ⟨z + 1 + 2, 0, none⟩), .pointer (some ⟨z + 1, 0, none⟩)], v26, undef, undef, undef, undef, undef, undef, undef, undef, undef, undef, undef, undef, undef, undef, undef, undef, undef, undef, undef], defers := [] }
/-- What has been read, between two rounds. -/
structure SrI (w W : World) (p : Pl) (D : Dk) (s n : Nat) (pre : List Pc) : Prop where
  st : ∃ acc a c b, (∀ xs, rdP D [] (pre ++ xs) = rdP D acc xs) ∧ Leads (3 + 64 * s) (0 + n) 0 pre b ∧ b ≤ 0 + n ∧ acc.length = b ∧ W.heap[w.heap.size + 3]? = some (.cells #[.slice a acc.length c] 31 (0, 0)) ∧ Go.Cit.Own 5 (w.heap.size + 7) W a acc c
  d : W.heap[w.heap.size]? = some (.cells #[.pointer (some ⟨p.b, 0, none⟩)] 24 (0, 0))
  r : W.heap[w.heap.size + 1]? = some (.cells #[.slice none 0 0] 31 (0, 0))
  e : W.heap[w.heap.size + 2]? = some (.cells #[.int .i64 0] 25 (0, 0))
  bl : Below w.heap.size w W
  sz : w.heap.size + 7 ≤ W.heap.size
/-- Where a read has stopped. -/
def SrX (w W : World) (D : Dk) (s n : Nat) (pre : List Pc) : Prop :=
  ∃ E, (∀ xs, rdP D [] (pre ++ xs) = ([], E)) ∧ (∃ b, Leads (3 + 64 * s) (0 + n) 0 pre b ∧ b ≤ 0 + n) ∧ W.heap[w.heap.size + 1]? = some (.cells #[.slice none 0 0] 31 (0, 0)) ∧ W.heap[w.heap.size + 2]? = some (.cells #[.int .i64 E] 25 (0, 0)) ∧ Below w.heap.size w W ∧ w.heap.size + 7 ≤ W.heap.size
theorem below_off {w W W' : World} {row : Option Nat} (h : Below w.heap.size w W) (hg : W.grownBy W' row) (hr : ∀ r, row = some r → r = w.heap.size + 5 ∨ (w.heap.size + 7 ≤ r ∧ ∃ o : Obj, W.heap[r]? = some o ∧ o.isCells = false)) : Below w.heap.size w W' :=
  h.grown hg h.size (fun k e => by rcases hr k e with h | ⟨h, _⟩ <;> omega)
theorem SrI.keep {w W W' : World} {p : Pl} {D : Dk} {s n : Nat} {pre : List Pc} {row : Option Nat} (h : SrI w W p D s n pre) (hg : W.grownBy W' row) (hr : ∀ r, row = some r → r = w.heap.size + 5 ∨ (w.heap.size + 7 ≤ r ∧ ∃ o : Obj, W.heap[r]? = some o ∧ o.isCells = false)) : SrI w W' p D s n pre := by
  obtain ⟨acc, a, c, b, h1, h2, h3, h4, h5, h6⟩ := h.st
  have hz := h.sz
  have hb : ∀ k, k < w.heap.size + 5 → k < W.heap.size → W'.heap[k]? = W.heap[k]? := fun k hk hl => hg.block k hl (fun e => by rcases hr k e.symm with h | ⟨h, _⟩ <;> omega)
  exact ⟨⟨acc, a, c, b, h1, h2, h3, h4, (hb _ (by omega) (by omega)).trans h5, ⟨ownsRow_apart h6.row hg (fun r e => by rcases hr r e with h | ⟨h, h2⟩; exact .inl (by omega); exact .inr h2)⟩⟩, (hb _ (by omega) (by omega)).trans h.d, (hb _ (by omega) (by omega)).trans h.r, (hb _ (by omega) (by omega)).trans h.e, below_off h.bl hg hr, Nat.le_trans h.sz hg.size⟩
theorem SrX.keep {w W W' : World} {D : Dk} {s n : Nat} {pre : List Pc} {row : Option Nat} (h : SrX w W D s n pre) (hg : W.grownBy W' row) (hr : ∀ r, row = some r → r = w.heap.size + 5 ∨ (w.heap.size + 7 ≤ r ∧ ∃ o : Obj, W.heap[r]? = some o ∧ o.isCells = false)) : SrX w W' D s n pre := by
  obtain ⟨E, h1, h2, h3, h4, h5, h6⟩ := h
  have hb : ∀ k, k < w.heap.size + 5 → k < W.heap.size → W'.heap[k]? = W.heap[k]? := fun k hk hl => hg.block k hl (fun e => by rcases hr k e.symm with h | ⟨h, _⟩ <;> omega)
  exact ⟨E, h1, h2, (hb _ (by omega) (by omega)).trans h3, (hb _ (by omega) (by omega)).trans h4, below_off h5 hg hr, Nat.le_trans h6 hg.size⟩
theorem results_cell2 {P : Program} {fn : Func} {t u : Tmp} {ty tz : TypeId} (h : fn.results = #[.cell t ty, .cell u tz]) (tmps : Array Value) (w : World) {q r : Addr} {v x : Value} (hp : tmps.getD t undef = .pointer (some q)) (hr : (loadVar ty q).run P w = .ok v w) (hp2 : tmps.getD u undef = .pointer (some r)) (hr2 : (loadVar tz r).run P w = .ok x w) : (results fn tmps).run P w = .ok (.tuple #[v, x]) w := by
  have hp' : tmps[t]?.getD undef = .pointer (some q) := by simpa using hp
  have hp2' : tmps[u]?.getD undef = .pointer (some r) := by simpa using hp2
  simp [results, h, hp', hp2', asAddr, hr, hr2]
theorem agRow : ∀ w, (isAgg 31).run Tryz.prog w = .ok false w := by intro w; kernel_rfl
/-- A piece's append, told. -/
def srX (g lo hi n1 : Nat) (a : Option Addr) (c : Nat) (a5 : Option Addr) (c5 : Nat) : Nat → Value
  | 37 => .slice a n1 c
  | 38 => .slice a5 64 c5
  | 39 => .pointer (some ⟨g, 1, none⟩)
  | 40 => .int .i64 (lo : Int)
  | 41 => .pointer (some ⟨g, 2, none⟩)
  | 42 => .int .i64 (hi : Int)
  | 43 => .slice (if c5 = lo then a5 else a5.map (·.add (lo * 1))) (hi - lo) (c5 - lo)
  | _ => undef
def srY (z g : Nat) (a5 : Option Addr) (c5 : Nat) : Nat → Value
  | 9 => .pointer (some ⟨z, 0, none⟩)
  | 10 => .pointer (some ⟨g, 0, none⟩)
  | 11 => .slice a5 64 c5
  | _ => undef
def srSt (w5 : World) (B z : Nat) (a : Option Addr) (l : List UInt8) : List Value → World → Prop
  | [], wx => Cit.Alike w5 wx
  | [v], wx => ∃ a' c', v = .slice a' l.length c' ∧ Go.Cit.Own 5 B wx a' l c' ∧ Save (fun j => Go.Cit.blk a ≠ some j) w5 wx
  | [_, _], wx => ∃ a' c', Go.Cit.Own 5 B wx a' l c' ∧ Save (fun j => Go.Cit.blk a ≠ some j ∧ j ≠ z) w5 wx ∧ wx.heap[z]? = some (.cells #[.slice a' l.length c'] 31 (0, 0))
  | _ :: _ :: _ :: _, _ => True
theorem srSt_cell {w5 wx : World} {B z : Nat} {a : Option Addr} {l : List UInt8} {vs : List Value} (h : srSt w5 B z a l vs wx) (hl : vs.length ≤ 2) {q : Addr} {v : Value} (hq : w5.cell? q = some v) (h1 : Go.Cit.blk a ≠ some q.block) (h2 : vs.length ≤ 1 ∨ q.block ≠ z) : wx.cell? q = some v := by
  have hlt := World.block_lt_of_cell? w5 _ hq
  match vs, h with
  | [], h => exact keep h.1 hq
  | [v], ⟨_, _, _, _, h⟩ => exact (h.cell hlt h1).trans hq
  | [_, _], ⟨_, _, _, h, _⟩ => exact (h.cell hlt ⟨h1, by rcases h2 with h2 | h2; simp at h2; exact h2⟩).trans hq
  | _ :: _ :: _ :: _, _ => simp at hl
theorem own_type {w : World} {B : Nat} {a : Option Addr} {l : List UInt8} {c g : Nat} (h : Go.Cit.Own 5 B w a l c) (hg : Go.Cit.blk a = some g) : ∃ cs, w.heap[g]? = some (.cells cs 5 (0, 0)) := by
  rcases h.row.2 with ⟨hv, _⟩ | ⟨g', cap, cur, hv, _, hh, _⟩
  · simp at hv; rw [hv.1] at hg; simp [Go.Cit.blk] at hg
  · simp at hv
    rw [hv.1] at hg
    simp [Go.Cit.blk] at hg
    subst hg
    exact ⟨_, hh⟩
theorem info8 : (Tryz.prog.info? 5).map (fun i => (i.zero, i.size, i.bytes)) = some (some (.int .u8 0), 1, 1) := by kernel_rfl
set_option maxRecDepth 100000 in
set_option maxHeartbeats 2000000 in
theorem sread_good (w : World) (p : Pl) (D : Dk) (h : DiskAt w p D) (hu : D.up = true) (s : Nat) (hs : s ≤ 1) (n : Nat) (hn : n ≤ 4096) :
    Calls Tryz.prog 13 #[.pointer (some ⟨p.b, 0, none⟩), .int .i64 (s : Int), .int .i64 (n : Int)] w fun e w' => ∃ xs a c, Leads (3 + 64 * s) n 0 xs n ∧ e = .returned (.tuple #[.slice a (rdP D [] xs).1.length c, .int .i64 (rdP D [] xs).2]) ∧ Go.Cit.Own 5 w.heap.size w' a (rdP D [] xs).1 c ∧ Below w.heap.size w w' := by
  refine (callsIn_wide (n := 3)).1 ?_
  refine callsIn_of_wp_marks Tryz.func13 rfl trivial ?_ rfl
  simp only [Tryz.ntmps13, List.size_toArray, List.length_cons, List.length_nil, Nat.reduceAdd, Nat.reduceSub, Array.replicate_succ, Array.replicate_zero, List.push_toArray, List.append_toArray, List.nil_append, List.cons_append]
  have HH := Lib.hid h
  gi_wp2
  obtain ⟨w3, hw3⟩ : ∃ w3, w3 = ((w.alloc (.cells #[.pointer (some ⟨p.b, 0, none⟩)] 24)).alloc (.cells #[.slice none 0 0] 31)).alloc (.cells #[.int .i64 0] 25) := ⟨_, rfl⟩
  have hB3 : Below w.heap.size w w3 := by rw [hw3]; exact (((Below.refl _ w).alloc (Nat.le_refl _) _).alloc (by simp) _).alloc (by simp; omega) _
  have hz3 : w3.heap.size = w.heap.size + 3 := by rw [hw3]; simp
  have bD : w3.heap[w.heap.size]? = some (.cells #[.pointer (some ⟨p.b, 0, none⟩)] 24 (0, 0)) := by
    rw [hw3]; exact ((Boxed.new w 24 (.pointer (some ⟨p.b, 0, none⟩))).alloc _).alloc _
  have bL : w3.heap[w.heap.size + 1]? = some (.cells #[.slice none 0 0] 31 (0, 0)) := by
    rw [hw3]
    have := Boxed.new (w.alloc (.cells #[.pointer (some ⟨p.b, 0, none⟩)] 24)) 31 (.slice none 0 0)
    rw [World.size_alloc] at this
    exact this.alloc _
  have bE : w3.heap[w.heap.size + 2]? = some (.cells #[.int .i64 0] 25 (0, 0)) := by
    rw [hw3]
    have := Boxed.new ((w.alloc (.cells #[.pointer (some ⟨p.b, 0, none⟩)] 24)).alloc (.cells #[.slice none 0 0] 31)) 25 (.int .i64 0)
    rw [World.size_alloc, World.size_alloc] at this
    exact this
  rw [← hw3]
  clear hw3
  have HB3 := Lib.hid hB3
  have HZ3 := Lib.hid hz3
  have HBD := Lib.hid bD
  have HBL := Lib.hid bL
  have HBE := Lib.hid bE
  have kD := cell_of_one bD
  have hrf := refused_calls w3 p D (HH.out.stay hB3) s 0 n (by omega) (by omega) (by omega)
  rw [show refE D.S.length s 0 n = 0 by rw [refE, if_neg (by have := HH.out.ok.pos; omega), if_neg (by omega), if_neg (by omega)]] at hrf
  have hup := up_calls w3 p D (HH.out.stay hB3)
  rw [hu] at hup
  clear h hB3 hz3 bD bL bE
  refine ⟨trivial, (callsIn_wide.2 hrf).mono ?_⟩
  rintro e w' ⟨rfl, rfl⟩
  gi_wp2
  refine ⟨trivial, (callsIn_wide.2 hup).mono ?_⟩
  rintro e w' ⟨rfl, rfl⟩
  gi_wp2
  refine ⟨trivial, (callsIn_wide.2 (spieces_calls _ _ _ _)).mono ?_⟩
  rintro e w4 ⟨rfl, rfl⟩
  gi_wp2
  obtain ⟨w0, hw0⟩ : ∃ w0, w0 = (((w'.alloc (.cells #[.slice none 0 0] 31)).alloc (.cells #[.int .i64 (s : Int)] 3)).alloc (.cells #[.int .i64 0] 3)).alloc (.cells #[.int .i64 (n : Int)] 3) := ⟨_, rfl⟩
  have hB0 : Below w'.heap.size w' w0 := by rw [hw0]; exact ((((Below.refl _ w').alloc (Nat.le_refl _) _).alloc (by simp) _).alloc (by simp; omega) _).alloc (by simp; omega) _
  have hz0 : w0.heap.size = w.heap.size + 7 := by rw [hw0]; simp; have := HZ3.out; omega
  have bO : w0.heap[w'.heap.size]? = some (.cells #[.slice none 0 0] 31 (0, 0)) := by
    rw [hw0]; exact (((Boxed.new w' 31 (.slice none 0 0)).alloc _).alloc _).alloc _
  have bS : w0.heap[w'.heap.size + 1]? = some (.cells #[.int .i64 (s : Int)] 3 (0, 0)) := by
    rw [hw0]
    have := Boxed.new (w'.alloc (.cells #[.slice none 0 0] 31)) 3 (.int .i64 (s : Int))
    rw [World.size_alloc] at this
    exact (this.alloc _).alloc _
  have bA : w0.heap[w'.heap.size + 1 + 1]? = some (.cells #[.int .i64 ((0 : Nat) : Int)] 3 (0, 0)) := by
    rw [hw0]
    have := Boxed.new ((w'.alloc (.cells #[.slice none 0 0] 31)).alloc (.cells #[.int .i64 (s : Int)] 3)) 3 (.int .i64 0)
    rw [World.size_alloc, World.size_alloc] at this
    exact this.alloc _
  have bN : w0.heap[w'.heap.size + 1 + 2]? = some (.cells #[.int .i64 (n : Int)] 3 (0, 0)) := by
    rw [hw0]
    have := Boxed.new (((w'.alloc (.cells #[.slice none 0 0] 31)).alloc (.cells #[.int .i64 (s : Int)] 3)).alloc (.cells #[.int .i64 0] 3)) 3 (.int .i64 (n : Int))
    rw [World.size_alloc, World.size_alloc, World.size_alloc] at this
    exact this
  rw [← hw0]
  clear hw0
  refine wpIn_range_stops rfl (by decide) (gf := 58) (lb := #[.pointer (some ⟨w'.heap.size + 1 + 1, 0, none⟩), .pointer (some ⟨w'.heap.size + 1 + 2, 0, none⟩), .pointer (some ⟨w'.heap.size + 1, 0, none⟩)]) rfl trivial (enters_of Tryz.func58 (by kernel_rfl) rfl)
    (C := (· = w'.heap.size + 1 + 1)) (fun c hc => by have := HZ3.out; omega)
    (sp_stops (3 - 1) w0 (w'.heap.size + 1 + 1) (w'.heap.size + 1 + 2) (w'.heap.size + 1) s 0 n hs (by omega) (by omega) (by omega) bA bN bS)
    (fun h k => Save.trans h k) (fun W L o o' hL ho hc => ⟨rfl, rfl, rfl, by simp, fun k _ hk => World.putObj_heap_other (by have := HZ3.out; omega)⟩) (fun x => rfl)
    (fun pre W => SrI w W p D s n pre) (fun pre W => SrX w W D s n pre) ?I ?Ix ?h0
    (fun pre x a' W => SrI w W p D s n pre ∧ (∃ b, Leads (3 + 64 * s) (0 + n) 0 pre b ∧ b < 0 + n ∧ x = pcAt (3 + 64 * s) (0 + n) b) ∧ ∃ g, a' = srF p s n w.heap.size w'.heap.size (.pointer (some ⟨g, 0, none⟩)) x.v ∧ w0.heap.size ≤ g ∧ W.heap[g]? = some (.cells #[.int .i64 (x.sec : Int), .int .i64 (x.lo : Int), .int .i64 (x.hi : Int)] 76 (0, 0))) ?Ax ?assign ?body ?done ?stop
  case I => exact fun pre W W' row hI hg hr => hI.keep hg (fun r e => by rcases hr r e with h | h; exact .inl (by have := HZ3.out; omega); exact .inr ⟨by rw [← hz0]; exact h.1, h.2⟩)
  case Ix => exact fun pre W W' row hI hg hr => SrX.keep hI hg (fun r e => by rcases hr r e with h | h; exact .inl (by have := HZ3.out; omega); exact .inr ⟨by rw [← hz0]; exact h.1, h.2⟩)
  case h0 =>
    have hbw := HB3.out.trans (hB0.mono HB3.out.size)
    have e3 := HZ3.out
    refine ⟨⟨[], none, 0, 0, fun _ => rfl, rfl, by omega, rfl, by rw [← e3]; exact bO, Go.Cit.Own.nil _ _ _⟩, (hB0.block _ (by omega)).trans HBD.out, (hB0.block _ (by omega)).trans HBL.out, (hB0.block _ (by omega)).trans HBE.out, hbw, by omega⟩
  case Ax =>
    rintro pre x a' W L o o' hL ho hc ⟨h1, h2, g, h3, h4, h5⟩
    refine ⟨h1.keep (grownBy_putObj' W L o') (fun r e => by cases e; exact .inr ⟨by rw [← hz0]; exact hL, o, ho, hc⟩), h2, g, h3, h4, (World.putObj_heap_other (fun e => ?_)).trans h5⟩
    subst e
    rw [h5] at ho
    cases ho
    simp [Obj.isCells] at hc
  case assign =>
    intro L pre x W K hI hN hx hK
    gi_wp2
    have hz := hI.sz
    have hal2 : Below W.heap.size W (W.alloc (.cells #[.int .i64 (x.sec : Int), .int .i64 (x.lo : Int), .int .i64 (x.hi : Int)] 76)) := (Below.refl _ W).alloc (Nat.le_refl _) _
    exact hK _ _ ⟨hal2.size, fun k o _ ho _ => (hal2.block k (Array.getElem?_eq_some_iff.1 ho).1).trans ho⟩ (Save.of hal2) ⟨hI.keep (World.grownBy_alloc W _ none) (fun r e => by cases e), hx, W.heap.size, rfl, by omega, World.alloc_heap_new W _⟩
  case body =>
    rintro L pre x a' W ⟨hI, ⟨b, hL, hb, hx⟩, g, rfl, hg0, hgc⟩
    obtain ⟨acc, a, c, b', h1, h2, h3, h4, h5, h6⟩ := hI.st
    obtain rfl : b' = b := h2.uniq hL
    obtain ⟨q1, q2, q3, q4⟩ := pc_in (base := 3 + 64 * s) hb
    rw [← hx] at q1 q2 q3 q4
    have HI := Lib.hid hI
    have HGC := Lib.hid hgc
    have H1 := Lib.hid h1
    have H2 := Lib.hid h2
    have H4 := Lib.hid h4
    have H5 := Lib.hid h5
    have H6 := Lib.hid h6
    have HX := Lib.hid hx
    have k0 : W.cell? ⟨g, 0, none⟩ = some (.int .i64 (x.sec : Int)) := by rw [World.cell?, hgc]; rfl
    have k3 := cell_of_one hI.d
    have hrd := read_calls W p D (HH.out.stay hI.bl) x.sec
    have hz := hI.sz
    have e3 := HZ3.out
    have HE3 := Lib.hid e3
    by_cases hre : readE D x.sec = 0
    · have hin : x.sec < D.S.length := by
        unfold readE at hre
        split at hre
        · exact absurd hre (by decide)
        · split at hre
          · rename_i h9; omega
          · exact absurd hre (by decide)
      have hRR : readR D x.sec = getR D x.sec := by rw [readR, if_pos ⟨hu, by omega, by omega⟩, Int.toNat_natCast]
      have h64 : (getR D x.sec).length = 64 := HH.out.ok.get hin
      obtain ⟨R, hR⟩ : ∃ R, Hid (R = getR D x.sec) := ⟨_, rfl⟩
      have HRE := Lib.hid hre
      have HRR : Hid (readR D x.sec = R) := by rw [Hid, hRR, hR.out]
      rw [hre, hRR, ← hR.out] at hrd
      rw [← hR.out] at h64
      rw [h64] at hrd
      have H64 := Lib.hid h64
      have HQ := Lib.hid (And.intro q1 (And.intro q2 (And.intro q3 q4)))
      have hal : acc.length ≤ 4096 := by omega
      have hgW : g < W.heap.size := (Array.getElem?_eq_some_iff.1 hgc).1
      have HNG : Hid (Go.Cit.blk a ≠ some g) := fun e => by
        obtain ⟨cs, h9⟩ := own_type h6 e
        rw [hgc] at h9
        injection h9 with h9
        injection h9 with _ h9
        exact absurd h9 (by decide)
      have HNZ : Hid (∀ k, k < w.heap.size + 7 → Go.Cit.blk a ≠ some k) := fun k hk e => by have := (h6.blk_ge e).1; omega
      clear hI h1 h2 h4 h5 h6 hrf hup kD bS bA bN bO hx h64 hRR hin hre q1 q2 q3 q4 hgc e3
      unfold srF
      gi_wp2
      refine ⟨trivial, (CallsIn.inRound L (callsIn_wide.2 hrd)).mono ?_⟩
      rintro e w5 ⟨a5, c5, rfl, hM5, hb5⟩
      have HM5 := Lib.hid hM5
      have HB5 := Lib.hid hb5
      have HO5 := Lib.hid (H6.out.stay hb5)
      clear hM5 hb5 hrd k0 k3
      gi_wp2
      have HG5 := Lib.hid ((HB5.out.block _ hgW).trans HGC.out)
      have HT5 : Hid (w5.heap[w'.heap.size]? = some (.cells #[.slice a acc.length c] 31 (0, 0))) := by rw [Hid, HE3.out]; exact (HB5.out.block _ (Array.getElem?_eq_some_iff.1 H5.out).1).trans H5.out
      have hNZ2 : Go.Cit.blk a ≠ some w'.heap.size := HNZ.out _ (by have := HE3.out; omega)
      have hgz : g ≠ w'.heap.size := by have := HE3.out; omega
      have HSL : Hid ((((R.take x.hi).drop x.lo)).length = x.hi - x.lo) := by rw [Hid, List.length_drop, List.length_take, H64.out]; have := HQ.out.2.1; omega
      have htz : w'.heap.size < W.heap.size := by have := HE3.out; omega
      refine region_line_round (srX g x.lo x.hi acc.length a c a5 c5) (srY w'.heap.size g a5 c5) [9, 10, 11] [7, 8] (srSt w5 (w.heap.size + 7) w'.heap.size a (acc ++ (R.take x.hi).drop x.lo)) (by kernel_rfl) (by kernel_rfl) (fun _ _ h => h) (by kernel_rfl) (by kernel_rfl) ⟨rfl, rfl, rfl, trivial⟩ (fun _ h => h) ?_ ?_
      · refine opsAll_cons ?_ (opsAll_cons ?_ (opsAll_cons ?_ (opsAll_cons ?_ (opsAll_cons ?_ (opsAll_cons ?_ (opsAll_cons ?_ (opsAll_cons ?_ (opsAll_cons ?_ opsAll_nil))))))))
        all_goals intro a_ vs hk
        · exact ⟨wanted_free rfl, .inr ⟨by decide, fun s1 s2 hle wx hst => gp_load (.tmp 9) rfl (show a_.eval (.tmp 9) = (.pointer (some ⟨w'.heap.size, 0, none⟩)) from hk.old 9 (by kernel_rfl)) (v := .slice a acc.length c) (load_at (fun w => by kernel_rfl) (srSt_cell hst hle (cell_of_one HT5.out) hNZ2 (.inl (s2 1 8 rfl (by kernel_rfl))))) ⟨rfl, rfl⟩⟩⟩
        · exact ⟨wanted_free rfl, .inr ⟨by decide, fun s1 s2 hle wx hst => gp_move (.tmp 11) rfl ⟨rfl, (show a_.eval (.tmp 11) = (.slice a5 64 c5) from hk.old 11 (by kernel_rfl))⟩⟩⟩
        · exact ⟨wanted_free rfl, .inr ⟨by decide, fun s1 s2 hle wx hst => gp_field (.tmp 10) rfl (show a_.eval (.tmp 10) = (.pointer (some ⟨g, 0, none⟩)) from hk.old 10 (by kernel_rfl)) (v := (.pointer (some ⟨g, 1, none⟩))) (fun w => by kernel_rfl) ⟨rfl, rfl⟩⟩⟩
        · exact ⟨wanted_free rfl, .inr ⟨by decide, fun s1 s2 hle wx hst => gp_load (.tmp 39) rfl (show a_.eval (.tmp 39) = (.pointer (some ⟨g, 1, none⟩)) from hk.slot 39 (by kernel_rfl) (by kernel_rfl)) (v := .int .i64 (x.lo : Int)) (load_at (fun w => by kernel_rfl) (srSt_cell hst hle (by rw [World.cell?, HG5.out]; rfl) HNG.out (.inr hgz))) ⟨rfl, rfl⟩⟩⟩
        · exact ⟨wanted_free rfl, .inr ⟨by decide, fun s1 s2 hle wx hst => gp_field (.tmp 10) rfl (show a_.eval (.tmp 10) = (.pointer (some ⟨g, 0, none⟩)) from hk.old 10 (by kernel_rfl)) (v := (.pointer (some ⟨g, 2, none⟩))) (fun w => by kernel_rfl) ⟨rfl, rfl⟩⟩⟩
        · exact ⟨wanted_free rfl, .inr ⟨by decide, fun s1 s2 hle wx hst => gp_load (.tmp 41) rfl (show a_.eval (.tmp 41) = (.pointer (some ⟨g, 2, none⟩)) from hk.slot 41 (by kernel_rfl) (by kernel_rfl)) (v := .int .i64 (x.hi : Int)) (load_at (fun w => by kernel_rfl) (srSt_cell hst hle (by rw [World.cell?, HG5.out]; rfl) HNG.out (.inr hgz))) ⟨rfl, rfl⟩⟩⟩
        · exact ⟨wanted_free rfl, .inr ⟨by decide, fun s1 s2 hle wx hst => gp_slice rfl (show a_.eval (.tmp 38) = (.slice a5 64 c5) from hk.slot 38 (by kernel_rfl) (by kernel_rfl)) (congrArg some (show a_.eval (.tmp 40) = .int .i64 (x.lo : Int) from hk.slot 40 (by kernel_rfl) (by kernel_rfl))) (congrArg some (show a_.eval (.tmp 42) = .int .i64 (x.hi : Int) from hk.slot 42 (by kernel_rfl) (by kernel_rfl))) rfl (by have h9 := Row.mid bt.slice bt.sz HM5.out.row x.lo x.hi (Nat.le_of_lt HQ.out.1) (by rw [H64.out]; exact HQ.out.2.1); rw [H64.out] at h9; exact h9) ⟨rfl, rfl⟩⟩⟩
        · refine ⟨wanted_free rfl, .inl ⟨0, rfl, fun hvs wx hst => ?_⟩⟩
          obtain rfl : vs = [] := List.eq_nil_of_length_eq_zero hvs
          have hq := HQ.out
          have hc5 := HM5.out.row.le
          have r6 := (HM5.out.row.stay hst.1).sub x.lo x.hi c5 (Nat.le_of_lt hq.1) (by rw [H64.out]; exact hq.2.1) (by rw [H64.out] at hc5; omega) (Nat.le_refl _)
          have e43 := hk.slot 43 (by kernel_rfl) (by kernel_rfl)
          simp only [srX] at e43
          generalize (if c5 = x.lo then a5 else a5.map (·.add (x.lo * 1))) = s6 at r6 e43
          have hsl := HSL.out
          obtain ⟨g6, off6, rfl⟩ := r6.spot (by intro h0; rw [h0] at hsl; simp at hsl; omega)
          have hon := HO5.out.stay hst.1
          refine gp_append_own (.tmp 37) (.tmp 43) 31 rfl (w.heap.size + 7) 5 (.int .u8 0) 1 1 bt.slice info8 rfl (by decide) (hk.slot 37 (by kernel_rfl) (by kernel_rfl)) hon.row e43 (news := ((R.take x.hi).drop x.lo).map vb) (by rw [List.length_map, hsl]; omega) ?_ ?_ ?_ ?_ ?_ ?_
          · intro j u hu
            rw [List.getElem?_map] at hu
            have hj : j < ((R.take x.hi).drop x.lo).length := by
              rcases Nat.lt_or_ge j ((R.take x.hi).drop x.lo).length with h9 | h9
              · exact h9
              · rw [List.getElem?_eq_none h9] at hu; simp at hu
            rw [List.getElem?_eq_getElem hj] at hu
            have ea : (⟨g6, off6, none⟩ : Addr).add j = ad (some ⟨g6, off6, none⟩) j := by unfold Addr.add ad; split <;> simp_all
            rw [ea, r6.cell j hj]
            exact hu
          · intro u hu
            obtain ⟨y, _, rfl⟩ := List.mem_map.1 hu
            rfl
          · unfold maxLen; omega
          · omega
          · have := hst.1.size; have := HB5.out.size; omega
          · intro v' w6 hown6 hgr
            rw [show srX g x.lo x.hi acc.length a c a5 c5 37 = .slice a acc.length c from rfl, ownBlock_slice] at hgr
            rw [← List.map_append] at hown6
            have hlen : (acc ++ (R.take x.hi).drop x.lo).length = acc.length + (x.hi - x.lo) := by rw [List.length_append, hsl]
            have hv' : ∃ a' c', v' = .slice a' (acc ++ (R.take x.hi).drop x.lo).length c' := by
              rw [hlen]
              rcases hown6.2 with ⟨hv, h0⟩ | ⟨g', cap, cur, hv, _⟩
              · exact ⟨none, 0, by rw [hv, h0]⟩
              · exact ⟨_, _, hv⟩
            obtain ⟨a', c', rfl⟩ := hv'
            rw [← hlen] at hown6
            exact ⟨a', c', rfl, ⟨hown6⟩, (Save.of hst.1).trans ((Save.grown hgr).less fun j _ hj e => hj e.symm)⟩
        · refine ⟨wanted_free rfl, .inl ⟨1, rfl, fun hvs wx hst => ?_⟩⟩
          match vs, hvs, hst, hk with
          | [v], _, ⟨a', c', hv, hown, hsv⟩, hk =>
            have hc := (hsv.block _ (Nat.lt_of_lt_of_le htz HB5.out.size) hNZ2).trans HT5.out
            have e44 : a_.eval (.tmp 44) = .slice a' (acc ++ (R.take x.hi).drop x.lo).length c' := by rw [hk.line 0 44 v rfl (by kernel_rfl), hv]
            have hzlt : w'.heap.size < w.heap.size + 7 := by have := HE3.out; omega
            exact gp_store (.tmp 9) (.tmp 44) rfl (hk.old 9 (by kernel_rfl)) e44 (store_slice (fun w => by kernel_rfl) (cell_of_one hc) (free_of_one hc)) ⟨a', c', hown.save (S := (· ≠ w'.heap.size)) Save.set (fun j hj e => by have := (hown.blk_ge hj).1; omega), (hsv.less (fun _ _ h => h.1)).trans (Save.set.less (fun _ _ h => h.2)), one_setCell hc⟩
      intro a_ vs wz hlen9 hfin hsame hall hline
      have he := act_same hsame [37, 38, 39, 40, 41, 42, 43, 44] (by kernel_rfl)
      simp only [List.foldl_cons, List.foldl_nil] at he
      generalize a_.eval (.tmp 37) = y37 at he
      generalize a_.eval (.tmp 38) = y38 at he
      generalize a_.eval (.tmp 39) = y39 at he
      generalize a_.eval (.tmp 40) = y40 at he
      generalize a_.eval (.tmp 41) = y41 at he
      generalize a_.eval (.tmp 42) = y42 at he
      generalize a_.eval (.tmp 43) = y43 at he
      generalize a_.eval (.tmp 44) = y44 at he
      simp only [put_lit] at he
      dsimp only [List.set_cons_zero, List.set_cons_succ] at he
      subst he
      clear hsame hall hline
      have hfin2 : ∃ a' c', Go.Cit.Own 5 (w.heap.size + 7) wz a' (acc ++ (R.take x.hi).drop x.lo) c' ∧ Save (fun j => Go.Cit.blk a ≠ some j ∧ j ≠ w'.heap.size) w5 wz ∧ wz.heap[w'.heap.size]? = some (.cells #[.slice a' (acc ++ (R.take x.hi).drop x.lo).length c'] 31 (0, 0)) := by
        match vs, hlen9, hfin with
        | [v1, v2], _, hfin => exact hfin
      obtain ⟨a', c', hf1, hf2, hf3⟩ := hfin2
      clear hlen9 hfin
      gi_wp2
      have HSV : Hid (Save (fun j => Go.Cit.blk a ≠ some j ∧ j ≠ w'.heap.size) W wz) := (Save.of HB5.out).trans hf2
      have hq := HQ.out
      have e3 := HE3.out
      refine ⟨⟨HSV.out.size, fun k o hk ho hoc => (HSV.out.block k (Array.getElem?_eq_some_iff.1 ho).1 ⟨fun e => ?_, by omega⟩).trans ho⟩, HSV.out.less (fun k _ hk => ?_), ⟨⟨acc ++ (R.take x.hi).drop x.lo, a', c', pcNext (0 + n) b', fun xs => ?_, by rw [HX.out]; exact H2.out.snoc hb, (pcNext_le hb).2, ?_, by rw [← e3]; exact hf3, hf1⟩, (HSV.out.block _ (Array.getElem?_eq_some_iff.1 HI.out.d).1 ⟨HNZ.out _ (by omega), by omega⟩).trans HI.out.d, (HSV.out.block _ (Array.getElem?_eq_some_iff.1 HI.out.r).1 ⟨HNZ.out _ (by omega), by omega⟩).trans HI.out.r, (HSV.out.block _ (Array.getElem?_eq_some_iff.1 HI.out.e).1 ⟨HNZ.out _ (by omega), by omega⟩).trans HI.out.e, HI.out.bl.trans (HSV.out.below HI.out.bl.size (fun k hk => ⟨HNZ.out k (by omega), by omega⟩)), Nat.le_trans hz HSV.out.size⟩⟩
      · obtain ⟨cs, h9⟩ := own_type H6.out e
        rw [h9] at ho
        cases ho
        simp [Obj.isCells] at hoc
      · rcases hk with rfl | rfl | rfl <;> exact ⟨HNZ.out _ (by omega), by omega⟩
      · rw [List.append_assoc, H1.out, List.singleton_append, rdP, if_neg (by rw [HRE.out]; decide), HRR.out]
      · rw [List.length_append, HSL.out, H4.out, hq.2.2.2]
    · have HRE := Lib.hid hre
      obtain ⟨E, hE⟩ : ∃ E, Hid (E = readE D x.sec) := ⟨_, rfl⟩
      rw [← hE.out] at hrd hre
      have t0 : (E == 0) = false := by simp [hre]
      clear hI h1 h2 h4 h5 h6 hrf hup kD bS bA bN bO hx hgc e3
      unfold srF
      gi_wp2
      refine ⟨trivial, (CallsIn.inRound L (callsIn_wide.2 hrd)).mono ?_⟩
      rintro e w5 ⟨a5, c5, rfl, hM5, hb5⟩
      have hE5 := (hb5.block _ (Array.getElem?_eq_some_iff.1 HI.out.e).1).trans HI.out.e
      have hR5 := (hb5.block _ (Array.getElem?_eq_some_iff.1 HI.out.r).1).trans HI.out.r
      have ke5 := cell_of_one hE5
      have fe5 := free_of_one hE5
      have kr5 := cell_of_one hR5
      have fr5 := free_of_one hR5
      have HB5 := Lib.hid hb5
      have HE5 := Lib.hid hE5
      have HR5 := Lib.hid hR5
      clear hM5 hb5 hE5 hR5 hrd k0 k3
      gi_wp2
      have hsw : Save (fun k => k ≠ w.heap.size + 1 ∧ k ≠ w.heap.size + 2) w5 ((w5.setCell ⟨w.heap.size + 1, 0, none⟩ (.slice none 0 0)).setCell ⟨w.heap.size + 1 + 1, 0, none⟩ (.int .i64 E)) := (Save.set.less fun k _ h => h.1).trans (Save.set.less fun k _ h => h.2)
      have hr2 : ((w5.setCell ⟨w.heap.size + 1, 0, none⟩ (.slice none 0 0)).setCell ⟨w.heap.size + 1 + 1, 0, none⟩ (.int .i64 E)).heap[w.heap.size + 1]? = some (.cells #[.slice none 0 0] 31 (0, 0)) := (Below.heap_setCell _ _ _ _ (by show w.heap.size + 1 ≠ w.heap.size + 1 + 1; omega)).trans (one_setCell HR5.out)
      have he1 : (w5.setCell ⟨w.heap.size + 1, 0, none⟩ (.slice none 0 0)).heap[w.heap.size + 2]? = some (.cells #[.int .i64 0] 25 (0, 0)) := (Below.heap_setCell _ _ _ _ (by show w.heap.size + 2 ≠ w.heap.size + 1; omega)).trans HE5.out
      refine ⟨⟨Nat.le_trans HB5.out.size hsw.size, fun k o hk ho _ => ?_⟩, E, fun xs => ?_, ⟨pcNext (0 + n) b', ?_, (pcNext_le hb).2⟩, hr2, one_setCell he1, HI.out.bl.trans ((HB5.out.mono HI.out.bl.size).trans (hsw.below (Nat.le_trans HI.out.bl.size HB5.out.size) (fun k hk => ⟨by omega, by omega⟩))), Nat.le_trans hz (Nat.le_trans HB5.out.size hsw.size)⟩
      · have hkl := (Array.getElem?_eq_some_iff.1 ho).1
        exact (hsw.block k (Nat.lt_of_lt_of_le hkl HB5.out.size) ⟨by omega, by omega⟩).trans ((HB5.out.block k hkl).trans ho)
      · rw [List.append_assoc, H1.out, List.singleton_append, rdP, if_pos HRE.out, ← hE.out]
      · rw [HX.out]; exact H2.out.snoc hb
  case done =>
    intro Dd xs W hDd hS hI hK
    obtain ⟨acc, a, c, b, h1, h2, h3, h4, h5, h6⟩ := hI.st
    have e3 := HZ3.out
    have ko : W.cell? ⟨w'.heap.size, 0, none⟩ = some (.slice a acc.length c) := by rw [e3]; exact cell_of_one h5
    have kr := cell_of_one hI.r
    have fr := free_of_one hI.r
    have ke := cell_of_one hI.e
    have fe := free_of_one hI.e
    have H4 := Lib.hid h4
    clear e3 h4
    gi_wp2
    have hsw : Save (fun k => k ≠ w.heap.size + 1 ∧ k ≠ w.heap.size + 2) W ((W.setCell ⟨w.heap.size + 1, 0, none⟩ (.slice a acc.length c)).setCell ⟨w.heap.size + 1 + 1, 0, none⟩ (.int .i64 0)) := (Save.set.less fun k _ h => h.1).trans (Save.set.less fun k _ h => h.2)
    have hr1 := one_setCell hI.r (u := .slice a acc.length c)
    have hr2 : ((W.setCell ⟨w.heap.size + 1, 0, none⟩ (.slice a acc.length c)).setCell ⟨w.heap.size + 1 + 1, 0, none⟩ (.int .i64 0)).heap[w.heap.size + 1]? = some (.cells #[.slice a acc.length c] 31 (0, 0)) := (Below.heap_setCell _ _ _ _ (by show w.heap.size + 1 ≠ w.heap.size + 1 + 1; omega)).trans hr1
    have he1 : (W.setCell ⟨w.heap.size + 1, 0, none⟩ (.slice a acc.length c)).heap[w.heap.size + 2]? = some (.cells #[.int .i64 0] 25 (0, 0)) := (Below.heap_setCell _ _ _ _ (by show w.heap.size + 2 ≠ w.heap.size + 1; omega)).trans hI.e
    have he2 := one_setCell he1 (u := .int .i64 0)
    rw [show w.heap.size + 2 = w.heap.size + 1 + 1 from rfl] at he2
    have hz := hI.sz
    have hbl := hI.bl
    have hown := h6.save hsw (fun j hj => by have := (h6.blk_ge hj).1; exact ⟨by omega, by omega⟩)
    have hKb : ((W.setCell ⟨w.heap.size + 1, 0, none⟩ (.slice a acc.length c)).setCell ⟨w.heap.size + 1 + 1, 0, none⟩ (.int .i64 0)).heap[Dd]? = some (.deferred (some [])) := (hsw.block _ (Array.getElem?_eq_some_iff.1 hK).1 ⟨by omega, by omega⟩).trans hK
    have hbl2 : Below w.heap.size w ((W.setCell ⟨w.heap.size + 1, 0, none⟩ (.slice a acc.length c)).setCell ⟨w.heap.size + 1 + 1, 0, none⟩ (.int .i64 0)) := hbl.trans (hsw.below hbl.size (fun k hk => ⟨by omega, by omega⟩))
    generalize (W.setCell ⟨w.heap.size + 1, 0, none⟩ (.slice a acc.length c)).setCell ⟨w.heap.size + 1 + 1, 0, none⟩ (.int .i64 0) = W2 at hr2 he2 hown hKb hbl2
    refine ⟨by simp, .inl ⟨_, _, rfl, run_takeDeferred hKb, ?_⟩⟩
    have hDd2 : w.heap.size + 7 ≤ Dd := by omega
    have hoth : ∀ k, k ≠ Dd → (W2.putObj Dd (.deferred none)).heap[k]? = W2.heap[k]? := fun k hk => World.putObj_heap_other hk
    have he3 := cell_of_one ((hoth _ (by omega)).trans he2)
    have hr3 := cell_of_one ((hoth _ (by omega)).trans hr2)
    have hS2 := hS
    rw [Nat.zero_add] at hS2
    have h1n := h1 []
    rw [List.append_nil] at h1n
    have h1m : rdP D [] xs = (acc, 0) := h1n
    have hlow := (show Go.Cit.Own 5 (w.heap.size + 7) (W2.putObj Dd (.deferred none)) a acc c from ⟨ownsRow_apart hown.row (grownBy_putObj' W2 Dd (.deferred none)) (fun r e => by cases e; exact .inr ⟨_, hKb, rfl⟩)⟩).low (base' := w.heap.size) (by omega)
    refine ⟨_, results_cell2 rfl _ _ rfl (load_cell1 agRow hr3) rfl (load_cell1 agErr he3), xs, a, c, hS2, by rw [h1m], by rw [h1m]; exact hlow, ?_⟩
    exact below_off hbl2 (grownBy_putObj' W2 Dd _) (fun r e => by cases e; exact .inr ⟨hDd2, _, hKb, rfl⟩)
  case stop =>
    intro Dd pre W hDd _ hX hK
    obtain ⟨E, h1, ⟨b, h2, h2b⟩, h3, h4, h5, h6⟩ := hX
    refine ⟨by simp, .inl ⟨_, _, rfl, run_takeDeferred hK, ?_⟩⟩
    have hDd2 : w.heap.size + 7 ≤ Dd := by omega
    have hoth : ∀ k, k ≠ Dd → (W.putObj Dd (.deferred none)).heap[k]? = W.heap[k]? := fun k hk => World.putObj_heap_other hk
    have he3 := cell_of_one ((hoth _ (by omega)).trans h4)
    have hr3 := cell_of_one ((hoth _ (by omega)).trans h3)
    obtain ⟨ys, hys⟩ := Leads.exist (3 + 64 * s) (0 + n) _ b (Nat.le_refl _) h2b
    have hall := h2.append hys
    rw [Nat.zero_add] at hall
    refine ⟨_, results_cell2 rfl _ _ rfl (load_cell1 agRow hr3) rfl (load_cell1 agErr he3), pre ++ ys, none, 0, hall, by rw [h1]; rfl, by rw [h1]; exact Go.Cit.Own.nil _ _ _, ?_⟩
    exact below_off h5 (grownBy_putObj' W Dd _) (fun r e => by cases e; exact .inr ⟨hDd2, _, hK, rfl⟩)
end Go.Proofs.YtofagofpeedfcaaGreat
