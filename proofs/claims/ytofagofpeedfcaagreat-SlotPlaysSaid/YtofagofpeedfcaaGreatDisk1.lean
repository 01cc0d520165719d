/- A disk in memory; disk.Disk's none, Up, ready, Len, has: walked. -/
import Derived.Test.YtofagofpeedfcaaGreatCMap
import Derived.Test.YtofagofpeedfcaaGreatGa
import Derived.Test.YtofagofpeedfcaaGreatGc
import Derived.Test.YtofagofpeedfcaaGreatGe
import Derived.Test.YtofagofpeedfcaaGreatGg
import Derived.WalkSpells
namespace Go.Proofs.YtofagofpeedfcaaGreat
open Go Go.RowKit Go.Cit

/-- A disk, as its words tell: what was flushed; what the cache has; at how many operations more it crashes, and what stays then. -/
structure Dk where
  up : Bool
  S : List (List UInt8)
  C : CacheV
  left : Nat
  stay : List UInt8
structure Dk.Ok (D : Dk) : Prop where
  sec : ∀ r ∈ D.S, r.length = 64
  cac : ∀ r, some r ∈ D.C → r.length = 64
  len : D.C.length = D.S.length
  few : D.S.length ≤ 1024
  pos : 0 < D.S.length
  left : D.left ≤ 9223372036854775807
  stay : D.stay.length ≤ 1000000000
/-- Where a disk lies: itself, its sectors, its cache; what lies elsewhere and is none of its. -/
structure Pl where
  b : Nat
  sb : Nat
  mb : Nat
  x : Nat → Prop
def Pl.Off (p : Pl) (k : Nat) : Prop := k ≠ p.b ∧ k ≠ p.sb ∧ k ≠ p.mb
abbrev dkCells (p : Pl) (D : Dk) (a : Option Addr) (c : Nat) : Array Value := #[.bool D.up, .slice (some ⟨p.sb, 0, none⟩) D.S.length D.S.length, .map (some p.mb), .int .i64 (D.left : Int), .slice a D.stay.length c]
abbrev secCells (S : List (List UInt8)) : Array Value := (S.flatMap (List.map vb)).toArray
structure DiskAt (w : World) (p : Pl) (D : Dk) : Prop where
  box : ∃ a c, w.heap[p.b]? = some (.cells (dkCells p D a c) 39 (0, 0)) ∧ Row w a D.stay c ∧ ∀ g, blk a = some g → p.Off g ∧ ¬ p.x g ∧ g < w.heap.size
  sec : w.heap[p.sb]? = some (.cells (secCells D.S) 91 (0, 0))
  map : CM w p.mb D.C
  ne1 : p.b ≠ p.sb
  ne2 : p.b ≠ p.mb
  ne3 : p.sb ≠ p.mb
  xlt : ∀ k, p.x k → k < w.heap.size
  ok : D.Ok
theorem DiskAt.save {w w' : World} {p : Pl} {D : Dk} (h : DiskAt w p D) {T : Nat → Prop} (hs : Save T w w') (hT : ∀ k, ¬ p.Off k → T k) (ha : ∀ a c, w.heap[p.b]? = some (.cells (dkCells p D a c) 39 (0, 0)) → ∀ g, blk a = some g → T g) : DiskAt w' p D := by
  obtain ⟨a, c, h1, h2, h3⟩ := h.box
  have lt : ∀ {k : Nat} {o : Obj}, w.heap[k]? = some o → k < w.heap.size := fun e => (Array.getElem?_eq_some_iff.1 e).1
  exact ⟨⟨a, c, (hs.block _ (lt h1) (hT _ (fun e => e.1 rfl))).trans h1, h2.save hs (ha a c h1), fun g hg => ⟨(h3 g hg).1, (h3 g hg).2.1, Nat.lt_of_lt_of_le (h3 g hg).2.2 hs.size⟩⟩, (hs.block _ (lt h.sec) (hT _ (fun e => e.2.1 rfl))).trans h.sec, h.map.save hs (hT _ (fun e => e.2.2 rfl)), h.ne1, h.ne2, h.ne3, fun k hk => Nat.lt_of_lt_of_le (h.xlt k hk) hs.size, h.ok⟩
theorem DiskAt.stay {w w' : World} {p : Pl} {D : Dk} (h : DiskAt w p D) (hb : Below w.heap.size w w') : DiskAt w' p D := h.save (T := fun _ => True) (Save.of hb) (fun _ _ => trivial) (fun _ _ _ _ _ => trivial)
/-- The disk's own cells. -/
theorem DiskAt.cells {w : World} {p : Pl} {D : Dk} (h : DiskAt w p D) : w.cell? ⟨p.b, 0, none⟩ = some (.bool D.up) ∧ w.cell? ⟨p.b, 1, none⟩ = some (.slice (some ⟨p.sb, 0, none⟩) D.S.length D.S.length) ∧ w.cell? ⟨p.b, 2, none⟩ = some (.map (some p.mb)) ∧ w.cell? ⟨p.b, 3, none⟩ = some (.int .i64 (D.left : Int)) ∧ (∃ a c, w.cell? ⟨p.b, 4, none⟩ = some (.slice a D.stay.length c) ∧ Row w a D.stay c) ∧ ∀ i, w.frozen? ⟨p.b, i, none⟩ = false := by
  obtain ⟨a, c, h1, h2, h3⟩ := h.box
  refine ⟨?_, ?_, ?_, ?_, ⟨a, c, ?_, h2⟩, fun i => by rw [World.frozen?, h1]; simp⟩ <;> (rw [World.cell?, h1]; rfl)
theorem DiskAt.lt {w : World} {p : Pl} {D : Dk} (h : DiskAt w p D) : p.b < w.heap.size ∧ p.sb < w.heap.size ∧ p.mb < w.heap.size := by
  obtain ⟨a, c, h1, _⟩ := h.box
  exact ⟨(Array.getElem?_eq_some_iff.1 h1).1, (Array.getElem?_eq_some_iff.1 h.sec).1, h.map.lt⟩
/-- The same disk, where something else is none of its. -/
theorem DiskAt.elsewhere {w : World} {p : Pl} {D : Dk} (h : DiskAt w p D) (h0 : w.cell? ⟨p.b, 4, none⟩ = some (.slice none 0 0)) (x : Nat → Prop) (hx : ∀ k, x k → k < w.heap.size) : DiskAt w { p with x := x } D := by
  obtain ⟨a, c, h1, h2, h3⟩ := h.box
  have h4 : w.cell? ⟨p.b, 4, none⟩ = some (.slice a D.stay.length c) := by rw [World.cell?, h1]; rfl
  rw [h4] at h0
  injection h0 with h0
  injection h0 with h0
  subst h0
  exact ⟨⟨none, c, h1, h2, fun g hg => by simp [blk] at hg⟩, h.sec, h.map, h.ne1, h.ne2, h.ne3, hx, h.ok⟩
/-- The same disk, where what has been laid since is none of its. -/
theorem DiskAt.more {w w1 : World} {p : Pl} {D : Dk} (h : DiskAt w p D) (hb : Below w.heap.size w w1) : DiskAt w1 { p with x := fun k => p.x k ∨ (w.heap.size ≤ k ∧ k < w1.heap.size) } D := by
  obtain ⟨a, c, h1, h2, h3⟩ := (h.stay hb).box
  have h4 := h.stay hb
  obtain ⟨a', c', g1, g2, g3⟩ := h.box
  have e : a = a' := by
    rw [(hb.block _ (Array.getElem?_eq_some_iff.1 g1).1).trans g1] at h1
    injection h1 with h1
    injection h1 with h1
    have := congrArg (fun C : Array Value => C[4]?) h1
    simp [dkCells] at this
    exact this.1.symm
  subst e
  exact ⟨⟨a, c, h1, h2, fun g hg => ⟨(h3 g hg).1, fun hx => hx.elim (h3 g hg).2.1 (fun hx => by have := (g3 g hg).2.2; omega), (h3 g hg).2.2⟩⟩, h4.sec, h4.map, h4.ne1, h4.ne2, h4.ne3, fun k hk => hk.elim (h4.xlt k) (fun hk => hk.2), h4.ok⟩
theorem DiskAt.less {w : World} {p : Pl} {D : Dk} {x : Nat → Prop} (h : DiskAt w { p with x := x } D) (hx : ∀ k, p.x k → x k) : DiskAt w p D := by
  obtain ⟨a, c, h1, h2, h3⟩ := h.box
  exact ⟨⟨a, c, h1, h2, fun g hg => ⟨(h3 g hg).1, fun e => (h3 g hg).2.1 (hx g e), (h3 g hg).2.2⟩⟩, h.sec, h.map, h.ne1, h.ne2, h.ne3, fun k hk => h.xlt k (hx k hk), h.ok⟩
/-- What is none of the disk's may be written. -/
theorem DiskAt.saveX {w w' : World} {p : Pl} {D : Dk} (h : DiskAt w p D) {T : Nat → Prop} (hs : Save T w w') (hT : ∀ k, ¬ p.Off k → T k) (hX : ∀ k, ¬ p.x k → T k) : DiskAt w' p D := by
  obtain ⟨a, c, h1, h2, h3⟩ := h.box
  refine h.save hs hT (fun a' c' g1 g hg => hX g ?_)
  have e : a' = a := by
    rw [h1] at g1
    injection g1 with g1
    injection g1 with g1
    have := congrArg (fun C : Array Value => C[4]?) g1
    simp [dkCells] at this
    exact this.1.symm
  rw [e] at hg
  exact (h3 g hg).2.1
/-- A disk that nobody made. -/
def NoDisk (w : World) (v : Value) : Prop := v = .pointer none ∨ ∃ b, v = .pointer (some ⟨b, 0, none⟩) ∧ w.cell? ⟨b, 2, none⟩ = some (.map none)
theorem NoDisk.stay {w w' : World} {v : Value} (h : NoDisk w v) (hb : Below w.heap.size w w') : NoDisk w' v := by
  rcases h with h | ⟨b, h1, h2⟩
  · exact .inl h
  · exact .inr ⟨b, h1, keep hb h2⟩

theorem qMap (w : World) (r : Option Nat) : (binOp .eql 37 (.map r) (.map none)).run Tryz.prog w = .ok (.bool r.isNone) w := run_eql_map_nil w _ _ _ r Tryz.underlying37

set_option maxRecDepth 100000 in
theorem none_calls (w : World) (p : Pl) (D : Dk) (h : DiskAt w p D) : Calls Tryz.prog 52 #[.pointer (some ⟨p.b, 0, none⟩)] w fun e w' => e = .returned (.bool false) ∧ w' = w := by
  obtain ⟨_, _, c2, _⟩ := h.cells
  have qM := qMap
  clear h
  go_enter Tryz.func52, Tryz.ntmps52
  go_wp2_with fail
  go_ret
  exact ⟨rfl, rfl⟩
set_option maxRecDepth 100000 in
theorem none_nil (w : World) (v : Value) (h : NoDisk w v) : Calls Tryz.prog 52 #[v] w fun e w' => e = .returned (.bool true) ∧ w' = w := by
  have qM := qMap
  rcases h with rfl | ⟨b, rfl, c2⟩
  · go_enter Tryz.func52, Tryz.ntmps52
    go_wp2_with fail
    go_ret
    exact ⟨rfl, rfl⟩
  · go_enter Tryz.func52, Tryz.ntmps52
    go_wp2_with fail
    go_ret
    exact ⟨rfl, rfl⟩
set_option maxRecDepth 100000 in
theorem up_calls (w : World) (p : Pl) (D : Dk) (h : DiskAt w p D) : Calls Tryz.prog 28 #[.pointer (some ⟨p.b, 0, none⟩)] w fun e w' => e = .returned (.bool D.up) ∧ w' = w := by
  obtain ⟨c0, _, c2, _⟩ := h.cells
  have hc := none_calls w p D h
  generalize D.up = u at *
  clear h
  go_enter Tryz.func28, Tryz.ntmps28
  go_wp2_with fail
  refine (hc).mono ?_
  rintro e w2 ⟨rfl, rfl⟩
  go_wp2_with fail
  go_ret
  exact ⟨rfl, rfl⟩
set_option maxRecDepth 100000 in
theorem up_nil (w : World) (v : Value) (h : NoDisk w v) : Calls Tryz.prog 28 #[v] w fun e w' => e = .returned (.bool false) ∧ w' = w := by
  have hc := none_nil w v h
  clear h
  go_enter Tryz.func28, Tryz.ntmps28
  go_wp2_with fail
  refine (hc).mono ?_
  rintro e w2 ⟨rfl, rfl⟩
  go_wp2_with fail
  go_ret
  exact ⟨rfl, rfl⟩
set_option maxRecDepth 100000 in
theorem ready_calls (w : World) (p : Pl) (D : Dk) (h : DiskAt w p D) : Calls Tryz.prog 44 #[.pointer (some ⟨p.b, 0, none⟩)] w fun e w' => e = .returned (.int .i64 (if D.up then 0 else 60)) ∧ w' = w := by
  obtain ⟨c0, _, c2, _⟩ := h.cells
  have hc := none_calls w p D h
  generalize D.up = u at *
  clear h
  cases u
  all_goals
    go_enter Tryz.func44, Tryz.ntmps44
    go_wp2_with fail
    refine (hc).mono ?_
    rintro e w2 ⟨rfl, rfl⟩
    go_wp2_with fail
    go_ret
    exact ⟨rfl, rfl⟩
set_option maxRecDepth 100000 in
theorem ready_nil (w : World) (v : Value) (h : NoDisk w v) : Calls Tryz.prog 44 #[v] w fun e w' => e = .returned (.int .i64 1) ∧ w' = w := by
  have hc := none_nil w v h
  clear h
  go_enter Tryz.func44, Tryz.ntmps44
  go_wp2_with fail
  refine (hc).mono ?_
  rintro e w2 ⟨rfl, rfl⟩
  go_wp2_with fail
  go_ret
  exact ⟨rfl, rfl⟩
set_option maxRecDepth 100000 in
theorem len_calls (w : World) (p : Pl) (D : Dk) (h : DiskAt w p D) : Calls Tryz.prog 57 #[.pointer (some ⟨p.b, 0, none⟩)] w fun e w' => e = .returned (.int .i64 D.S.length) ∧ w' = w := by
  obtain ⟨_, c1, c2, _⟩ := h.cells
  have hc := none_calls w p D h
  have hf := h.ok.few
  generalize D.S.length = n at *
  clear h
  go_enter Tryz.func57, Tryz.ntmps57
  go_wp2_with fail
  refine (hc).mono ?_
  rintro e w2 ⟨rfl, rfl⟩
  go_wp2_with fail
  go_ret
  exact ⟨rfl, rfl⟩
set_option maxRecDepth 100000 in
theorem len_nil (w : World) (v : Value) (h : NoDisk w v) : Calls Tryz.prog 57 #[v] w fun e w' => e = .returned (.int .i64 0) ∧ w' = w := by
  have hc := none_nil w v h
  clear h
  go_enter Tryz.func57, Tryz.ntmps57
  go_wp2_with fail
  refine (hc).mono ?_
  rintro e w2 ⟨rfl, rfl⟩
  go_wp2_with fail
  go_ret
  exact ⟨rfl, rfl⟩
set_option maxRecDepth 100000 in
theorem dhas_calls (w : World) (p : Pl) (D : Dk) (h : DiskAt w p D) (i : Int) : Calls Tryz.prog 56 #[.pointer (some ⟨p.b, 0, none⟩), .int .i64 i] w fun e w' => e = .returned (.bool (decide (0 ≤ i ∧ i < D.S.length))) ∧ w' = w := by
  have hc := len_calls w p D h
  have hf := h.ok.few
  generalize D.S.length = n at *
  obtain ⟨R, HR⟩ : ∃ R, Hid (R = decide (0 ≤ i ∧ i < (n : Int))) := ⟨_, rfl⟩
  rw [← HR.out]
  clear h
  by_cases h0 : 0 ≤ i
  · have HF : Hid (R = decide (i < (n : Int))) := by rw [Hid, HR.out]; simp [h0]
    go_enter Tryz.func56, Tryz.ntmps56
    go_wp2_with fail
    refine (hc).mono ?_
    rintro e w2 ⟨rfl, rfl⟩
    go_wp2_with fail
    go_ret
    exact ⟨ret_bool HF.out.symm, rfl⟩
  · have HF : Hid (R = false) := by rw [Hid, HR.out]; simp [h0]
    go_enter Tryz.func56, Tryz.ntmps56
    go_wp2_with fail
    go_ret
    exact ⟨ret_bool HF.out.symm, rfl⟩
set_option maxRecDepth 100000 in
theorem dhas_nil (w : World) (v : Value) (h : NoDisk w v) (i : Int) : Calls Tryz.prog 56 #[v, .int .i64 i] w fun e w' => e = .returned (.bool false) ∧ w' = w := by
  have hc := len_nil w v h
  clear h
  by_cases h0 : 0 ≤ i
  · have h1 : ¬ i < 0 := by omega
    go_enter Tryz.func56, Tryz.ntmps56
    go_wp2_with fail
    refine (hc).mono ?_
    rintro e w2 ⟨rfl, rfl⟩
    go_wp2_with fail
    go_ret
    exact ⟨ret_bool (by simpa using h1), rfl⟩
  · go_enter Tryz.func56, Tryz.ntmps56
    go_wp2_with fail
    go_ret
    exact ⟨rfl, rfl⟩
end Go.Proofs.YtofagofpeedfcaaGreat
