/- wire.NewReader, whole, breaks, take, Err, Left, End: contracts. -/
import Derived.Test.YtglmijcfdcajkaaSame
import Derived.Test.YtglmijcfdcajkaaSave
import Derived.Test.YtglmijcfdcajkaaWordsLoad
namespace Go.Proofs.Ytglmijcfdcajkaa
open Go Go.RowKit Go.Cit

/-- A reader lies in block b: what stands in front, its error. -/
structure Rd (base top : Nat) (w : World) (b : Nat) (a : Option Addr) (l : List UInt8) (c : Nat) (e : Int) : Prop where
  blk : w.heap[b]? = some (.cells #[.slice a l.length c, .bool true, .int .i64 e] 54 (0, 0))
  row : Row w a l c
  ge : base ≤ b
  off : l ≠ [] → ∀ g, Go.Cit.blk a = some g → g ≠ b ∧ base ≤ g ∧ g < top
  len : l.length ≤ 65536

theorem Rd.lt {base top w b a l c e} (h : Rd base top w b a l c e) : b < w.heap.size := (Array.getElem?_eq_some_iff.1 h.blk).1
theorem Rd.c0 {base top w b a l c e} (h : Rd base top w b a l c e) : w.cell? ⟨b, 0, none⟩ = some (.slice a l.length c) := by rw [World.cell?, h.blk]; rfl
theorem Rd.c1 {base top w b a l c e} (h : Rd base top w b a l c e) : w.cell? ⟨b, 1, none⟩ = some (.bool true) := by rw [World.cell?, h.blk]; rfl
theorem Rd.c2 {base top w b a l c e} (h : Rd base top w b a l c e) : w.cell? ⟨b, 2, none⟩ = some (.int .i64 e) := by rw [World.cell?, h.blk]; rfl
theorem Rd.fr {base top w b a l c e} (h : Rd base top w b a l c e) (i : Nat) : w.frozen? ⟨b, i, none⟩ = false := by simp [World.frozen?, h.blk]
theorem Rd.save {S : Nat → Prop} {base top w w' b a l c e} (h : Rd base top w b a l c e) (hs : Save S w w') (hb : S b) (ha : l ≠ [] → ∀ g, Go.Cit.blk a = some g → S g) : Rd base top w' b a l c e :=
  ⟨by rw [hs.block b h.lt hb]; exact h.blk, h.row.save' hs ha, h.ge, h.off, h.len⟩
theorem Rd.stay {base top w w' b a l c e} (h : Rd base top w b a l c e) (hs : Below w.heap.size w w') : Rd base top w' b a l c e := h.save (Save.of (S := fun _ => True) hs) trivial (fun _ _ _ => trivial)

/-- What a reader is, by itself. -/
structure St where
  l : List UInt8
  e : Int
def St.broke : St := ⟨[], 50⟩
def St.next (s : St) (n : Nat) : Option (List UInt8) × St := if s.e ≠ 0 then (none, s) else if n ≤ s.l.length then (some (s.l.take n), ⟨s.l.drop n, 0⟩) else (none, St.broke)
def St.breaks (s : St) : St := if s.e = 0 then St.broke else s
/-- A reader in block b that is s. -/
def RdAt (base top : Nat) (w : World) (b : Nat) (s : St) : Prop := ∃ a c, Rd base top w b a s.l c s.e

theorem whole_calls {base top w b a l c e} (h : Rd base top w b a l c e) :
    Calls Try.prog 52 #[.pointer (some ⟨b, 0, none⟩)] w fun r w' => r = .returned (.bool (e == 0)) ∧ w = w' := by
  have c1 := h.c1
  have c2 := h.c2
  go_enter Try.func52, Try.ntmps52
  go_wp2_with fail
  go_ret
  exact ⟨rfl, rfl⟩

theorem set0 {w : World} {b : Nat} {x y z v : Value} {T : TypeId} {fr : Nat × Nat} (h : w.heap[b]? = some (.cells #[x, y, z] T fr)) : (w.setCell ⟨b, 0, none⟩ v).heap[b]? = some (.cells #[v, y, z] T fr) := by
  simp [World.setCell, Array.getElem?_modify, h]
theorem set2 {w : World} {b : Nat} {x y z v : Value} {T : TypeId} {fr : Nat × Nat} (h : w.heap[b]? = some (.cells #[x, y, z] T fr)) : (w.setCell ⟨b, 2, none⟩ v).heap[b]? = some (.cells #[x, y, v] T fr) := by
  simp [World.setCell, Array.getElem?_modify, h]

theorem breaks_calls {base top w b a l c e} (h : Rd base top w b a l c e) :
    Calls Try.prog 82 #[.pointer (some ⟨b, 0, none⟩)] w fun r w' => r = .returned (.tuple #[]) ∧ RdAt base top w' b (St.breaks ⟨l, e⟩) ∧ Save (· ≠ b) w w' := by
  have c0 := h.c0
  have c2 := h.c2
  have f0 := h.fr 0
  have f2 := h.fr 2
  go_enter Try.func82, Try.ntmps82
  go_wp2_with fail
  refine (whole_calls h).mono ?_
  rintro r w1 ⟨rfl, rfl⟩
  by_cases he : e = 0
  · have ge : (e == 0) = true := by rw [he]; rfl
    have HE : Hid (St.breaks ⟨l, e⟩ = St.broke) := by rw [Hid, St.breaks, if_pos he]
    clear he
    go_wp2_with fail
    go_end0
    refine ⟨rfl, ?_, Save.set.trans Save.set⟩
    rw [HE.out]
    exact ⟨none, 0, set2 (set0 h.blk), Row.nil_ _, h.ge, fun h => absurd rfl h, by simp [St.broke]⟩
  · have ge : (e == 0) = false := by simpa using he
    have HE : Hid (St.breaks ⟨l, e⟩ = ⟨l, e⟩) := by rw [Hid, St.breaks, if_neg he]
    clear he
    go_wp2_with fail
    go_end0
    refine ⟨rfl, ?_, Save.refl _ _⟩
    rw [HE.out]
    exact ⟨a, c, h⟩
theorem take_no {base top w b a l c e} (h : Rd base top w b a l c e) (n : Int) (hno : e = 0 → (l.length : Int) < n) :
    Calls Try.prog 81 #[.pointer (some ⟨b, 0, none⟩), .int .i64 n] w fun r w' => r = .returned (.tuple #[.slice none 0 0, .bool false]) ∧ RdAt base top w' b (St.breaks ⟨l, e⟩) ∧ Save (· ≠ b) w w' := by
  have c0 := h.c0
  go_enter Try.func81, Try.ntmps81
  go_wp2_with fail
  refine (whole_calls h).mono ?_
  rintro r w1 ⟨rfl, rfl⟩
  by_cases he : e = 0
  · have ge : (e == 0) = true := by rw [he]; rfl
    have hlt := hno he
    clear hno he
    go_wp2_with fail
    refine (breaks_calls h).mono ?_
    rintro r w2 ⟨rfl, hR, hS⟩
    go_wp2_with fail
    go_ret2
    exact ⟨rfl, hR, hS⟩
  · have ge : (e == 0) = false := by simpa using he
    clear hno he
    go_wp2_with fail
    refine (breaks_calls h).mono ?_
    rintro r w2 ⟨rfl, hR, hS⟩
    go_wp2_with fail
    go_ret2
    exact ⟨rfl, hR, hS⟩

theorem take_yes {base top w b a l c} (h : Rd base top w b a l c 0) (n : Nat) (hn : n ≤ l.length) :
    Calls Try.prog 81 #[.pointer (some ⟨b, 0, none⟩), .int .i64 n] w fun r w' => ∃ a' X c', Hid (X = l.take n) ∧ r = .returned (.tuple #[.slice a' X.length c', .bool true]) ∧ Row w' a' X c' ∧ RdAt base top w' b ⟨l.drop n, 0⟩ ∧ Save (· ≠ b) w w' := by
  have c0 := h.c0
  have f0 := h.fr 0
  obtain ⟨a1, X, c1, hX, hr1, r1, b1⟩ := h.row.upto2 bt.slice bt.sz n hn
  obtain ⟨a2, Y, c2, hY, hr2, r2, b2⟩ := h.row.from2 bt.slice bt.sz n hn
  have HX : Hid (X = l.take n) := hX
  have HY : Hid (Y = l.drop n) := hY
  have hYl : Y.length ≤ 65536 := by have := h.len; rw [hY, List.length_drop]; omega
  have HB1 := Lib.hid b1
  have HB2 := Lib.hid b2
  clear hX hY b1 b2
  go_enter Try.func81, Try.ntmps81
  go_wp2_with fail
  refine (whole_calls h).mono ?_
  rintro r w1 ⟨rfl, rfl⟩
  go_wp2_with fail
  go_ret2
  have hS : Save (· ≠ b) w (w.setCell ⟨b, 0, none⟩ (.slice a2 Y.length c2)) := Save.set
  have hne : ∀ {Z : List UInt8}, Z ≠ [] → (Z = l.take n ∨ Z = l.drop n) → l ≠ [] := by
    rintro Z hZ (rfl | rfl) h0
    · simp [h0] at hZ
    · simp [h0] at hZ
  refine ⟨a1, X, c1, HX, rfl, r1.save' hS (fun hX g hg => (h.off (hne hX (.inl HX.out)) g (by rw [← HB1.out]; exact hg)).1), ⟨a2, c2, ?_⟩, hS⟩
  have hk := set0 (v := .slice a2 Y.length c2) h.blk
  rw [← HY.out]
  exact ⟨hk, r2.save' hS (fun hY g hg => (h.off (hne hY (.inr HY.out)) g (by rw [← HB2.out]; exact hg)).1), h.ge, fun hY g hg => h.off (hne hY (.inr HY.out)) g (by rw [← HB2.out]; exact hg), hYl⟩

theorem rerr_calls {base top w b a l c e} (h : Rd base top w b a l c e) :
    Calls Try.prog 18 #[.pointer (some ⟨b, 0, none⟩)] w fun r w' => r = .returned (.int .i64 e) ∧ w = w' := by
  have c1 := h.c1
  have c2 := h.c2
  go_enter Try.func18, Try.ntmps18
  go_wp2_with fail
  go_ret
  exact ⟨rfl, rfl⟩

def St.left (s : St) : Nat := if s.e = 0 then s.l.length else 0
theorem rleft_calls {base top w b a l c e} (h : Rd base top w b a l c e) :
    Calls Try.prog 19 #[.pointer (some ⟨b, 0, none⟩)] w fun r w' => r = .returned (.int .i64 (St.left ⟨l, e⟩ : Int)) ∧ w = w' := by
  have c0 := h.c0
  go_enter Try.func19, Try.ntmps19
  go_wp2_with fail
  refine (whole_calls h).mono ?_
  rintro r w1 ⟨rfl, rfl⟩
  by_cases he : e = 0
  · have ge : (e == 0) = true := by rw [he]; rfl
    have HE : Hid (St.left ⟨l, e⟩ = l.length) := by rw [Hid, St.left, if_pos he]
    clear he
    go_wp2_with fail
    go_ret
    exact ⟨by rw [HE.out]; rfl, rfl⟩
  · have ge : (e == 0) = false := by simpa using he
    have HE : Hid (St.left ⟨l, e⟩ = 0) := by rw [Hid, St.left, if_neg he]
    clear he
    go_wp2_with fail
    go_ret
    exact ⟨by rw [HE.out]; rfl, rfl⟩

def St.fin (s : St) : Int := if 0 < s.left then 50 else s.e
theorem rend_calls {base top w b a l c e} (h : Rd base top w b a l c e) :
    Calls Try.prog 24 #[.pointer (some ⟨b, 0, none⟩)] w fun r w' => r = .returned (.int .i64 (St.fin ⟨l, e⟩)) ∧ w = w' := by
  go_enter Try.func24, Try.ntmps24
  go_wp2_with fail
  refine (rleft_calls h).mono ?_
  rintro r w1 ⟨rfl, rfl⟩
  by_cases he : 0 < St.left ⟨l, e⟩
  · have HE : Hid (St.fin ⟨l, e⟩ = 50) := by rw [Hid, St.fin, if_pos he]
    go_wp2_with fail
    go_ret
    exact ⟨by rw [HE.out]; rfl, rfl⟩
  · have HE : Hid (St.fin ⟨l, e⟩ = e) := by rw [Hid, St.fin, if_neg he]
    go_wp2_with fail
    refine (rerr_calls h).mono ?_
    rintro r w2 ⟨rfl, rfl⟩
    go_wp2_with fail
    go_ret
    exact ⟨by rw [HE.out]; rfl, rfl⟩

def St.new (l : List UInt8) : St := if l.length ≤ 65536 then ⟨l, 0⟩ else ⟨[], 3⟩
theorem newreader_calls (w : World) {a0 : Option Addr} {l : List UInt8} {c0 : Nat} (h0 : Row w a0 l c0) :
    Calls Try.prog 17 #[.slice a0 l.length c0] w fun r w' => r = .returned (.pointer (some ⟨w.heap.size, 0, none⟩)) ∧ RdAt w.heap.size w'.heap.size w' w.heap.size (St.new l) ∧ Below w.heap.size w w' := by
  have hlen := h0.len_le
  have hn := heap_alloc_new w (.cells #[.slice none 0 0, .bool true, .int .i64 0] 54)
  have hb0 : Below w.heap.size w (w.alloc (.cells #[.slice none 0 0, .bool true, .int .i64 0] 54)) := (Below.refl _ _).alloc (Nat.le_refl _) _
  go_enter Try.func17, Try.ntmps17
  by_cases hl : 65536 < l.length
  · have HE : Hid (St.new l = ⟨[], 3⟩) := by rw [Hid, St.new, if_neg (by omega)]
    go_wp2_with fail
    go_ret
    refine ⟨rfl, ?_, (Below.refl _ _).alloc (Nat.le_refl _) _⟩
    rw [HE.out]
    exact ⟨none, 0, heap_alloc_new w _, Row.nil_ _, Nat.le_refl _, fun h => absurd rfl h, by simp⟩
  · have HE : Hid (St.new l = ⟨l, 0⟩) := by rw [Hid, St.new, if_pos (by omega)]
    have r0 := h0.stay hb0
    have hl9 : l.length ≤ 65536 := by omega
    clear h0 hl
    have hk := toX (cat1_calls _ 26 r0 (by omega))
    rw [show (w.alloc (.cells #[.slice none 0 0, .bool true, .int .i64 0] 54)).heap.size = w.heap.size + 1 by simp] at hk
    go_wp2_with fail
    refine Calls.mono hk ?_
    rintro e w2 ⟨a2, X, c2, HX, rfl, hm2, hb2⟩
    have hn2 := (hb2.block w.heap.size (by simp)).trans hn
    have cc : w2.cell? ⟨w.heap.size, 0, none⟩ = some (.slice none 0 0) := by rw [World.cell?, hn2]; rfl
    have ff : w2.frozen? ⟨w.heap.size, 0, none⟩ = false := by simp [World.frozen?, hn2]
    have HN := Lib.hid hn2
    have hXl : X.length ≤ 65536 := by rw [HX.out]; exact hl9
    clear hn hn2
    go_wp2_with fail
    go_ret
    have hS : Save (· ≠ w.heap.size) w2 (w2.setCell ⟨w.heap.size, 0, none⟩ (.slice a2 X.length c2)) := Save.set
    have hoff : ∀ g, blk a2 = some g → g ≠ w.heap.size := fun g hg => by have := hm2.new g hg; omega
    refine ⟨rfl, ?_, (hb0.trans (hb2.mono (by simp))).setCell (Nat.le_refl _) _⟩
    rw [HE.out, ← HX.out]
    refine ⟨a2, c2, set0 HN.out, hm2.row.save hS hoff, Nat.le_refl _, fun hX g hg => ⟨hoff g hg, by have := hm2.new g hg; omega, ?_⟩, hXl⟩
    have h1 := hm2.row.blk (List.length_pos_iff.2 hX)
    have h2 := hS.size
    cases a2 with
    | none => simp [blk] at hg
    | some p => simp [blk, ad] at hg h1; omega
end Go.Proofs.Ytglmijcfdcajkaa
