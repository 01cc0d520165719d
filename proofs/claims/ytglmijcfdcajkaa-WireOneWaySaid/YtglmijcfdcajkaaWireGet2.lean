/- wire.Reader's Bytes, Text, Count: contracts. -/
import Derived.Test.YtglmijcfdcajkaaWireGet
namespace Go.Proofs.Ytglmijcfdcajkaa
open Go Go.RowKit Go.Cit

def fAll (x : List UInt8) : List UInt8 × Bool := (x, true)

/-- What a reading of bytes leaves. -/
def Got (base top : Nat) (w : World) (b : Nat) (p : List UInt8 × St) (r : Ending) (w' : World) : Prop :=
  ∃ a' X c', Hid (X = p.1) ∧ r = .returned (.slice a' X.length c') ∧ Mine w.heap.size w' a' X c' ∧ RdAt base top w' b p.2 ∧ Save (· ≠ b) w w'

theorem cat_is (w : World) {a : Option Addr} {X : List UInt8} {c : Nat} (r : Row w a X c) (h : X.length ≤ 300000000) :
    Calls Try.prog 70 #[.slice a X.length c] w fun e w' => ∃ a' Y c', Hid (Y = X) ∧ e = .returned (.tuple #[.slice a' Y.length c', .bool true]) ∧ Mine w.heap.size w' a' Y c' ∧ Below w.heap.size w w' := by
  go_enter Try.func70, Try.ntmps70
  go_wp2_with fail
  refine (toX (cat1_calls _ _ r (by omega))).mono ?_
  rintro e w2 ⟨a2, Y, c2, HY, rfl, hm2, hb2⟩
  go_wp2_with fail
  go_ret2
  exact ⟨a2, Y, c2, HY, rfl, hm2, hb2⟩

theorem all_field {base top w b a l c e} (h : Rd base top w b a l c e) (n : Nat) :
    Calls Try.prog 69 #[.pointer (some ⟨b, 0, none⟩), .int .i64 n, .func (.func 70) #[] #[]] w (Got base top w b (St.read ⟨l, e⟩ n fAll [])) := by
  by_cases hy : e = 0 ∧ n ≤ l.length
  · obtain ⟨rfl, hn⟩ := hy
    have hk := take_yes h n hn
    have HR : Hid (St.read ⟨l, 0⟩ n fAll [] = (l.take n, ⟨l.drop n, 0⟩)) := read_yes hn rfl
    have hl := h.len
    go_enter Try.func69, Try.ntmps69
    go_wp2_with fail
    refine Calls.mono hk ?_
    rintro r w1 ⟨a1, X, c1, HX, rfl, r1, hR, hS⟩
    have hX : X.length ≤ 65536 := by rw [HX.out, List.length_take]; omega
    have hi := cat_is w1 r1 (by omega)
    clear hk
    go_wp2_with fail
    refine Calls.mono hi ?_
    rintro r w2 ⟨a2, Y, c2, HY, rfl, hm2, hb2⟩
    go_wp2_with fail
    go_ret
    rw [HR.out]
    exact ⟨a2, Y, c2, by rw [Hid, HY.out, HX.out], rfl, hm2.low hS.size, RdAt.stay hR hb2, hS.trans (Save.of hb2)⟩
  · have hno : e = 0 → l.length < n := fun he => by have := fun h => hy ⟨he, h⟩; omega
    have hk := take_no h n (fun he => by have := hno he; omega)
    have HR : Hid (St.read ⟨l, e⟩ n fAll [] = ([], St.breaks ⟨l, e⟩)) := read_no hno
    clear hno hy
    go_enter Try.func69, Try.ntmps69
    go_wp2_with fail
    refine Calls.mono hk ?_
    rintro r w1 ⟨rfl, hR, hS⟩
    go_wp2_with fail
    go_ret
    rw [HR.out]
    exact ⟨none, [], 0, rfl, rfl, Mine.nil _ _, hR, hS⟩

def St.bytes (s : St) : List UInt8 × St :=
  if (s.read 4 fLen 0).2.e = 0 then (s.read 4 fLen 0).2.read (s.read 4 fLen 0).1.toNat fAll [] else ([], (s.read 4 fLen 0).2)

theorem read_len (s : St) : ∃ m : Nat, (s.read 4 fLen 0).1 = (m : Int) := by
  unfold St.read
  split
  · split
    · exact ⟨_, rfl⟩
    · exact ⟨0, rfl⟩
  · exact ⟨0, rfl⟩

theorem rbytes_calls {base top w b a l c e} (h : Rd base top w b a l c e) :
    Calls Try.prog 29 #[.pointer (some ⟨b, 0, none⟩)] w (Got base top w b (St.bytes ⟨l, e⟩)) := by
  have hk := len_field h
  obtain ⟨m, hm⟩ := read_len ⟨l, e⟩
  rw [hm] at hk
  obtain ⟨s, hs⟩ : ∃ s, Hid (s = (St.read ⟨l, e⟩ 4 fLen 0).2) := ⟨_, rfl⟩
  rw [← hs.out] at hk
  have HB : Hid (St.bytes ⟨l, e⟩ = if s.e = 0 then s.read m fAll [] else ([], s)) := by rw [Hid, St.bytes, ← hs.out, hm]; rfl
  clear hm hs
  go_enter Try.func29, Try.ntmps29
  go_wp2_with fail
  refine Calls.mono hk ?_
  rintro r w1 ⟨rfl, ⟨a1, c1, hR⟩, hS⟩
  clear hk
  go_wp2_with fail
  refine (whole_calls hR).mono ?_
  rintro r w2 ⟨rfl, rfl⟩
  by_cases he : s.e = 0
  · have ge : (s.e == 0) = true := by rw [he]; rfl
    have HB2 : Hid (St.bytes ⟨l, e⟩ = s.read m fAll []) := by rw [Hid, HB.out, if_pos he]
    clear he HB
    go_wp2_with fail
    refine (all_field hR m).mono ?_
    rintro r w3 ⟨a3, X, c3, HX, rfl, hm3, hR3, hS3⟩
    go_wp2_with fail
    go_ret
    exact ⟨a3, X, c3, by rw [Hid, HX.out, HB2.out], rfl, hm3.low hS.size, by rw [HB2.out]; exact hR3, hS.trans hS3⟩
  · have ge : (s.e == 0) = false := by simpa using he
    have HB2 : Hid (St.bytes ⟨l, e⟩ = ([], s)) := by rw [Hid, HB.out, if_neg he]
    clear he HB
    go_wp2_with fail
    go_ret
    exact ⟨none, [], 0, by rw [Hid, HB2.out], rfl, Mine.nil _ _, by rw [HB2.out]; exact ⟨a1, c1, hR⟩, hS⟩

theorem rtext_calls {base top w b a l c e} (h : Rd base top w b a l c e) :
    Calls Try.prog 30 #[.pointer (some ⟨b, 0, none⟩)] w fun r w' => r = .returned (.string ⟨(St.bytes ⟨l, e⟩).1.toArray⟩) ∧ RdAt base top w' b (St.bytes ⟨l, e⟩).2 ∧ Save (· ≠ b) w w' := by
  go_enter Try.func30, Try.ntmps30
  go_wp2_with fail
  refine (rbytes_calls h).mono ?_
  rintro r w1 ⟨a1, X, c1, HX, rfl, hm, hR, hS⟩
  have hs := row_string hm.row
  go_wp2_with fail
  go_ret
  rw [← HX.out]
  exact ⟨rfl, hR, hS⟩

/-- Count, by itself. -/
def St.count (s : St) (most : Int) : Int × St :=
  match s.next 8 with
  | (some x, s') => if 0 ≤ i64Q (numB x) ∧ i64Q (numB x) ≤ most ∧ i64Q (numB x) ≤ (s'.l.length : Int) then (i64Q (numB x), s') else (0, St.broke)
  | (none, s') => (0, s')

theorem ret_ib {a b : Int} {s t : Bool} (h : a = b) (k : s = t) : Ending.returned (.tuple #[.int .i64 a, .bool s]) = .returned (.tuple #[.int .i64 b, .bool t]) := by rw [h, k]
theorem count_is {base top w b a l c e} (h : Rd base top w b a l c e) (most : Int) (g1 g2 : Nat) (h1 : w.cell? ⟨g1, 0, none⟩ = some (.int .i64 most)) (h2 : w.cell? ⟨g2, 0, none⟩ = some (.pointer (some ⟨b, 0, none⟩))) {a' : Option Addr} {X : List UInt8} {c' : Nat} (r : Row w a' X c') (hX : X.length = 8) :
    Calls Try.prog 73 #[.slice a' X.length c', .pointer (some ⟨g1, 0, none⟩), .pointer (some ⟨g2, 0, none⟩)] w fun r w' => r = .returned (.tuple #[.int .i64 (i64Q (numB X)), .bool (decide (0 ≤ i64Q (numB X)) && decide (i64Q (numB X) ≤ min most (l.length : Int)))]) ∧ Below w.heap.size w w' := by
  have hk := load64_calls w _ _ _ 0 r
  rw [loadB_all hX] at hk
  have c0 := h.c0
  have c0' : ∀ n, (w.drewN n).cell? ⟨b, 0, none⟩ = some (.slice a l.length c) := fun _ => c0
  have h1' : ∀ n, (w.drewN n).cell? ⟨g1, 0, none⟩ = some (.int .i64 most) := fun _ => h1
  have h2' : ∀ n, (w.drewN n).cell? ⟨g2, 0, none⟩ = some (.pointer (some ⟨b, 0, none⟩)) := fun _ => h2
  obtain ⟨q, hq⟩ : ∃ q, wrap64 ((numB X).toNat : Int) = q := ⟨_, rfl⟩
  rw [show i64Q (numB X) = q from hq]
  clear hX
  go_enter Try.func73, Try.ntmps73
  go_wp2_with fail
  refine Calls.mono hk ?_
  rintro r w1 ⟨rfl, hw⟩
  subst hw
  have hl9 := h.len
  by_cases hq0 : 0 ≤ q
  · have hd : decide (0 ≤ q) = true := decide_eq_true hq0
    go_wp2_with fail
    go_quiet (fail)
    go_wp2_with fail
    go_ret2
    refine ⟨ret_ib hq ?_, below_drewN _ _ _⟩
    simp [hd]
  · have hd : decide (0 ≤ q) = false := decide_eq_false hq0
    go_wp2_with fail
    go_quiet (fail)
    go_wp2_with fail
    go_ret2
    refine ⟨ret_ib hq ?_, below_drewN _ _ _⟩
    simp [hd]
theorem count_yes {l : List UInt8} {most : Int} (h : 8 ≤ l.length) (hf : (decide (0 ≤ i64Q (numB (l.take 8))) && decide (i64Q (numB (l.take 8)) ≤ min most ((l.drop 8).length : Int))) = true) : St.count ⟨l, 0⟩ most = (i64Q (numB (l.take 8)), ⟨l.drop 8, 0⟩) := by
  rw [St.count, next_yes h]
  simp only [Bool.and_eq_true, decide_eq_true_eq] at hf
  exact if_pos ⟨hf.1, by omega, by show _ ≤ ((l.drop 8).length : Int); omega⟩
theorem count_bad {l : List UInt8} {most : Int} (h : 8 ≤ l.length) (hf : (decide (0 ≤ i64Q (numB (l.take 8))) && decide (i64Q (numB (l.take 8)) ≤ min most ((l.drop 8).length : Int))) = false) : St.count ⟨l, 0⟩ most = (0, St.broke) := by
  rw [St.count, next_yes h]
  simp only [Bool.and_eq_false_iff, decide_eq_false_iff_not] at hf
  exact if_neg (fun hc => by
    obtain ⟨a1, a2, a3⟩ := hc
    have a4 : i64Q (numB (l.take 8)) ≤ ((l.drop 8).length : Int) := a3
    rcases hf with h | h <;> omega)
theorem count_no {l : List UInt8} {e most : Int} (h : e = 0 → l.length < 8) : St.count ⟨l, e⟩ most = (0, St.breaks ⟨l, e⟩) := by
  rw [St.count, next_no h]

theorem count_field {base top w b a l c e} (h : Rd base top w b a l c e) (most : Int) (g1 g2 : Nat) (n1 : g1 ≠ b) (n2 : g2 ≠ b) (h1 : w.cell? ⟨g1, 0, none⟩ = some (.int .i64 most)) (h2 : w.cell? ⟨g2, 0, none⟩ = some (.pointer (some ⟨b, 0, none⟩))) :
    Calls Try.prog 62 #[.pointer (some ⟨b, 0, none⟩), .int .i64 8, .func (.func 73) #[] #[.pointer (some ⟨g1, 0, none⟩), .pointer (some ⟨g2, 0, none⟩)]] w fun r w' => r = .returned (.int .i64 (St.count ⟨l, e⟩ most).1) ∧ RdAt base top w' b (St.count ⟨l, e⟩ most).2 ∧ Save (· ≠ b) w w' := by
  have lt1 := World.block_lt_of_cell? w _ h1
  have lt2 := World.block_lt_of_cell? w _ h2
  by_cases hy : e = 0 ∧ 8 ≤ l.length
  · obtain ⟨rfl, hn⟩ := hy
    have hk := take_yes h 8 hn
    have HN := Lib.hid hn
    rw [show ((8 : Nat) : Int) = 8 from rfl] at hk
    go_enter Try.func62, Try.ntmps62
    go_wp2_with fail
    refine Calls.mono hk ?_
    rintro r w1 ⟨a1, X, c1, HX, rfl, r1, ⟨a2, c2, hR⟩, hS⟩
    have hX : X.length = 8 := by rw [HX.out, List.length_take]; omega
    have hi := count_is hR most g1 g2 ((hS.cell (p := ⟨g1, 0, none⟩) lt1 n1).trans h1) ((hS.cell (p := ⟨g2, 0, none⟩) lt2 n2).trans h2) r1 hX
    clear hX hk hn
    obtain ⟨B, hB⟩ : ∃ B, Hid (B = (decide (0 ≤ i64Q (numB X)) && decide (i64Q (numB X) ≤ min most ((l.drop 8).length : Int)))) := ⟨_, rfl⟩
    rw [← hB.out] at hi
    go_wp2_with fail
    refine Calls.mono hi ?_
    rintro r w2 ⟨rfl, hb2⟩
    have hR2 := hR.stay hb2
    replace hS := hS.trans (Save.of hb2)
    cases hok : B
    · have HR : Hid (St.count ⟨l, 0⟩ most = (0, St.broke)) := count_bad HN.out (by rw [← HX.out, ← hB.out]; exact hok)
      go_wp2_with fail
      refine (breaks_calls hR2).mono ?_
      rintro r w3 ⟨rfl, hR3, hS3⟩
      go_wp2_with fail
      go_ret
      rw [HR.out]
      exact ⟨rfl, hR3, hS.trans hS3⟩
    · have HR : Hid (St.count ⟨l, 0⟩ most = (i64Q (numB X), ⟨l.drop 8, 0⟩)) := by rw [Hid, HX.out]; exact count_yes HN.out (by rw [← HX.out, ← hB.out]; exact hok)
      go_wp2_with fail
      go_ret
      rw [HR.out]
      exact ⟨rfl, ⟨a2, c2, hR2⟩, hS⟩
  · have hno : e = 0 → (l.length : Int) < 8 := fun he => by have := fun h => hy ⟨he, h⟩; omega
    have hk := take_no h 8 hno
    have HR : Hid (St.count ⟨l, e⟩ most = (0, St.breaks ⟨l, e⟩)) := count_no (fun he => by have := hno he; omega)
    clear hno hy
    go_enter Try.func62, Try.ntmps62
    go_wp2_with fail
    refine Calls.mono hk ?_
    rintro r w1 ⟨rfl, hR, hS⟩
    go_wp2_with fail
    go_ret
    rw [HR.out]
    exact ⟨rfl, hR, hS⟩

theorem rcount_calls {base top w b a l c e} (h : Rd base top w b a l c e) (most : Int) :
    Calls Try.prog 32 #[.pointer (some ⟨b, 0, none⟩), .int .i64 most] w fun r w' => r = .returned (.int .i64 (St.count ⟨l, e⟩ most).1) ∧ RdAt base top w' b (St.count ⟨l, e⟩ most).2 ∧ Save (· ≠ b) w w' := by
  have hmf : ∀ (fn : Fn) (first cap : Array Value) (w : World), (Instr.makeFunc fn first cap).run Try.prog w = .ok (.func fn first cap) w := fun _ _ _ _ => rfl
  have hlt := h.lt
  go_enter Try.func32, Try.ntmps32
  go_wp2_with fail
  obtain ⟨W, HW⟩ : ∃ W, Hid (W = (w.alloc (Obj.cells #[.pointer (some ⟨b, 0, none⟩)] 37)).alloc (Obj.cells #[.int .i64 most] 3)) := ⟨_, rfl⟩
  rw [← HW.out]
  have e1 : W.cell? ⟨w.heap.size + 1, 0, none⟩ = some (.int .i64 most) := by rw [HW.out]; simp
  have e2 : W.cell? ⟨w.heap.size, 0, none⟩ = some (.pointer (some ⟨b, 0, none⟩)) := by rw [HW.out]; simp
  have B : Below w.heap.size w W := by rw [HW.out]; exact ((Below.refl _ _).alloc (Nat.le_refl _) _).alloc (by simp) _
  clear HW hmf
  refine (count_field (h.stay B) most (w.heap.size + 1) w.heap.size (by omega) (by omega) e1 e2).mono ?_
  rintro r w1 ⟨rfl, hR, hS⟩
  go_wp2_with fail
  go_ret
  exact ⟨rfl, hR, (Save.of B).trans hS⟩
end Go.Proofs.Ytglmijcfdcajkaa
