/- wire.Reader's Byte, Int, Flag, Bytes, Text: contracts. -/
import Derived.Test.YtglmijcfdcajkaaWireRead
import Derived.Laws.EntriesVeiled
import Derived.Test.YtglmijcfdcajkaaWordsLaw

namespace Go.Proofs.Ytglmijcfdcajkaa
open Go Go.RowKit Go.Cit

def St.read {α : Type} (s : St) (n : Nat) (f : List UInt8 → α × Bool) (z : α) : α × St :=
  match s.next n with
  | (some x, s') => if (f x).2 then ((f x).1, s') else (z, St.broke)
  | (none, s') => (z, s')
theorem RdAt.stay {base top w w' b s} (h : RdAt base top w b s) (hb : Below w.heap.size w w') : RdAt base top w' b s := by
  obtain ⟨a, c, h⟩ := h; exact ⟨a, c, h.stay hb⟩
theorem RdAt.save {S : Nat → Prop} {base top w w' b s} (h : RdAt base top w b s) (hs : Save S w w') (hb : S b) (ht : ∀ g, base ≤ g → g < top → S g) : RdAt base top w' b s := by
  obtain ⟨a, c, h⟩ := h; exact ⟨a, c, h.save hs hb (fun hl g hg => ht g (h.off hl g hg).2.1 (h.off hl g hg).2.2)⟩
theorem next_no {l : List UInt8} {e : Int} {n : Nat} (h : e = 0 → l.length < n) : St.next ⟨l, e⟩ n = (none, St.breaks ⟨l, e⟩) := by
  unfold St.next St.breaks
  by_cases he : e = 0
  · simp [he, Nat.not_le.2 (h he)]
  · simp [he]
theorem next_yes {l : List UInt8} {n : Nat} (h : n ≤ l.length) : St.next ⟨l, 0⟩ n = (some (l.take n), ⟨l.drop n, 0⟩) := by
  unfold St.next
  simp [h]
theorem read_no {α : Type} {l : List UInt8} {e : Int} {n : Nat} {f : List UInt8 → α × Bool} {z : α} (h : e = 0 → l.length < n) : St.read ⟨l, e⟩ n f z = (z, St.breaks ⟨l, e⟩) := by
  rw [St.read, next_no h]
theorem read_yes {α : Type} {l : List UInt8} {n : Nat} {f : List UInt8 → α × Bool} {z : α} (h : n ≤ l.length) (hf : (f (l.take n)).2 = true) : St.read ⟨l, 0⟩ n f z = ((f (l.take n)).1, ⟨l.drop n, 0⟩) := by
  rw [St.read, next_yes h]; simp [hf]
theorem read_bad {α : Type} {l : List UInt8} {n : Nat} {f : List UInt8 → α × Bool} {z : α} (h : n ≤ l.length) (hf : (f (l.take n)).2 = false) : St.read ⟨l, 0⟩ n f z = (z, St.broke) := by
  rw [St.read, next_yes h]; simp [hf]

def i64Q (x : UInt64) : Int := wrap64 (x.toNat : Int)
def fByte (x : List UInt8) : UInt8 × Bool := (x.getD 0 0, true)
def fInt (x : List UInt8) : Int × Bool := (i64Q (numB x), true)
def fFlag (x : List UInt8) : Bool × Bool := (x.getD 0 0 == bI 1, decide ((x.getD 0 0).toNat ≤ 1))
def fLen (x : List UInt8) : Int × Bool := (((numB x).toNat : Int), decide ((numB x).toNat ≤ 65536))

theorem loadB_all {l : List UInt8} {n : Nat} (h : l.length = n) : loadB l 0 n = (numB l, true) := by
  rw [loadB, if_pos (by omega)]
  simp [List.take_of_length_le (Nat.le_of_eq h)]

theorem byte_is (w : World) {a : Option Addr} {X : List UInt8} {c : Nat} (r : Row w a X c) (h : X.length = 1) :
    Calls Try.prog 54 #[.slice a X.length c] w fun e w' => e = .returned (.tuple #[vb (fByte X).1, .bool (fByte X).2]) ∧ Below w.heap.size w w' := by
  have h0 : 0 < X.length := by omega
  have i0 := r.index bt.slice bt.sz 0 h0
  have e0 := r.cell 0 h0
  rw [show ((0 : Nat) : Int) = 0 from rfl] at i0
  have HE : Hid (fByte X = (X[0], true)) := by rw [Hid, fByte]; simp [List.getD, h0]
  clear h
  go_enter Try.func54, Try.ntmps54
  go_wp2_with fail
  go_ret2
  exact ⟨by rw [HE.out]; rfl, Below.refl _ _⟩

theorem flag_is (w : World) {a : Option Addr} {X : List UInt8} {c : Nat} (r : Row w a X c) (h : X.length = 1) :
    Calls Try.prog 66 #[.slice a X.length c] w fun e w' => e = .returned (.tuple #[.bool (fFlag X).1, .bool (fFlag X).2]) ∧ Below w.heap.size w w' := by
  have h0 : 0 < X.length := by omega
  have i0 := r.index bt.slice bt.sz 0 h0
  have e0 := r.cell 0 h0
  rw [show ((0 : Nat) : Int) = 0 from rfl] at i0
  have HE : Hid (fFlag X = (X[0] == bI 1, decide (X[0].toNat ≤ 1))) := by rw [Hid, fFlag]; simp [List.getD, h0]
  clear h
  go_enter Try.func66, Try.ntmps66
  go_wp2_with fail
  have ec : ∀ n, (w.drewN n).cell? (ad a 0) = some (vb X[0]) := fun _ => e0
  go_quiet (fail)
  go_wp2_with fail
  go_ret2
  refine ⟨?_, below_drewN _ _ _⟩
  rw [HE.out]
  have : decide ((X[0].toNat : Int) ≤ 1) = decide (X[0].toNat ≤ 1) := decide_eq_decide.2 (by omega)
  first | rfl | (rw [← this]; rfl)

theorem int_is (w : World) {a : Option Addr} {X : List UInt8} {c : Nat} (r : Row w a X c) (h : X.length = 8) :
    Calls Try.prog 63 #[.slice a X.length c] w fun e w' => e = .returned (.tuple #[.int .i64 (fInt X).1, .bool (fInt X).2]) ∧ Below w.heap.size w w' := by
  have hk := load64_calls w _ _ _ 0 r
  rw [loadB_all h] at hk
  clear h
  go_enter Try.func63, Try.ntmps63
  go_wp2_with fail
  refine Calls.mono hk ?_
  rintro e w1 ⟨rfl, hw⟩
  subst hw
  go_wp2_with fail
  go_ret2
  exact ⟨rfl, Below.refl _ _⟩

theorem len_is (w : World) {a : Option Addr} {X : List UInt8} {c : Nat} (r : Row w a X c) (h : X.length = 4) :
    Calls Try.prog 67 #[.slice a X.length c] w fun e w' => e = .returned (.tuple #[.int .i64 (fLen X).1, .bool (fLen X).2]) ∧ Below w.heap.size w w' := by
  have hk := load32_calls w _ _ _ 0 r
  rw [loadB_all h] at hk
  have hlt : (numB X).toNat < 4294967296 := numB_lt X 4 (by omega) (by decide)
  have hq : ((wOfQ (numB X)).toNat : Int) = ((numB X).toNat : Int) := by
    unfold wOfQ; rw [UInt64.toNat_toUInt32]; omega
  clear h
  have HQ := Lib.hid hq
  generalize wOfQ (numB X) = q at hk HQ hq
  have hq2 : (q.toNat : Int) < 4294967296 := by have := q.toNat_lt; omega
  clear hq
  go_enter Try.func67, Try.ntmps67
  go_wp2_with fail
  refine Calls.mono hk ?_
  rintro e w1 ⟨rfl, hw⟩
  subst hw
  go_wp2_with fail
  go_ret2
  refine ⟨?_, Below.refl _ _⟩
  rw [fLen, ← HQ.out]
  have e1 : IntKind.i64.wrap (q.toNat : Int) = q.toNat := IntWalk.i64_in _ (by omega)
  have e2 : decide ((q.toNat : Int) ≤ 65536) = decide ((numB X).toNat ≤ 65536) := decide_eq_decide.2 (by have := HQ.out; omega)
  first | rfl | (rw [← e2]; rfl) | (rw [← e2]; simp [e1])

theorem byte_field {base top w b a l c e} (h : Rd base top w b a l c e) :
    Calls Try.prog 53 #[.pointer (some ⟨b, 0, none⟩), .int .i64 1, .func (.func 54) #[] #[]] w fun r w' => r = .returned (vb (St.read ⟨l, e⟩ 1 fByte 0).1) ∧ RdAt base top w' b (St.read ⟨l, e⟩ 1 fByte 0).2 ∧ Save (· ≠ b) w w' := by
  by_cases hy : e = 0 ∧ 1 ≤ l.length
  · obtain ⟨rfl, hn⟩ := hy
    have hk := take_yes h 1 hn
    have HN := Lib.hid hn
    rw [show ((1 : Nat) : Int) = 1 from rfl] at hk
    go_enter Try.func53, Try.ntmps53
    go_wp2_with fail
    refine Calls.mono hk ?_
    rintro r w1 ⟨a1, X, c1, HX, rfl, r1, hR, hS⟩
    have hX : X.length = 1 := by rw [HX.out, List.length_take]; omega
    have hi := byte_is w1 r1 hX
    clear hX hk hn
    go_wp2_with fail
    refine Calls.mono hi ?_
    rintro r w2 ⟨rfl, hb2⟩
    replace hR := RdAt.stay hR hb2
    replace hS := hS.trans (Save.of hb2)
    cases hok : (fByte X).2
    · have HR : Hid (St.read ⟨l, 0⟩ 1 fByte 0 = (0, St.broke)) := read_bad HN.out (by rw [← HX.out]; exact hok)
      obtain ⟨a2, c2, hR⟩ := hR
      go_wp2_with fail
      refine (breaks_calls hR).mono ?_
      rintro r w3 ⟨rfl, hR3, hS3⟩
      go_wp2_with fail
      go_ret
      rw [HR.out]
      exact ⟨rfl, hR3, hS.trans hS3⟩
    · have HR : Hid (St.read ⟨l, 0⟩ 1 fByte 0 = ((fByte X).1, ⟨l.drop 1, 0⟩)) := by rw [Hid, HX.out]; exact read_yes HN.out (by rw [← HX.out]; exact hok)
      go_wp2_with fail
      go_ret
      rw [HR.out]
      exact ⟨rfl, hR, hS⟩
  · have hno : e = 0 → (l.length : Int) < 1 := fun he => by have := fun h => hy ⟨he, h⟩; omega
    have hk := take_no h 1 hno
    have HR : Hid (St.read ⟨l, e⟩ 1 fByte 0 = (0, St.breaks ⟨l, e⟩)) := read_no (fun he => by have := hno he; omega)
    clear hno hy
    go_enter Try.func53, Try.ntmps53
    go_wp2_with fail
    refine Calls.mono hk ?_
    rintro r w1 ⟨rfl, hR, hS⟩
    go_wp2_with fail
    go_ret
    rw [HR.out]
    exact ⟨rfl, hR, hS⟩

theorem rbyte_calls {base top w b a l c e} (h : Rd base top w b a l c e) :
    Calls Try.prog 20 #[.pointer (some ⟨b, 0, none⟩)] w fun r w' => r = .returned (vb (St.read ⟨l, e⟩ 1 fByte 0).1) ∧ RdAt base top w' b (St.read ⟨l, e⟩ 1 fByte 0).2 ∧ Save (· ≠ b) w w' := by
  go_enter Try.func20, Try.ntmps20
  go_wp2_with fail
  refine (byte_field h).mono ?_
  rintro r w1 ⟨rfl, hR, hS⟩
  go_wp2_with fail
  go_ret
  exact ⟨rfl, hR, hS⟩

theorem int_field {base top w b a l c e} (h : Rd base top w b a l c e) :
    Calls Try.prog 62 #[.pointer (some ⟨b, 0, none⟩), .int .i64 8, .func (.func 63) #[] #[]] w fun r w' => r = .returned (.int .i64 (St.read ⟨l, e⟩ 8 fInt 0).1) ∧ RdAt base top w' b (St.read ⟨l, e⟩ 8 fInt 0).2 ∧ Save (· ≠ b) w w' := by
  by_cases hy : e = 0 ∧ 8 ≤ l.length
  · obtain ⟨rfl, hn⟩ := hy
    have hk := take_yes h 8 hn
    have HN := Lib.hid hn
    rw [show ((8 : Nat) : Int) = 8 from rfl] at hk
    go_enter Try.func62, Try.ntmps62
    go_wp2_with fail
    refine Calls.mono hk ?_
    rintro r w1 ⟨a1, X, c1, HX, rfl, r1, hR, hS⟩
    have hX : X.length = 8 := by rw [HX.out, List.length_take]; omega
    have hi := int_is w1 r1 hX
    clear hX hk hn
    go_wp2_with fail
    refine Calls.mono hi ?_
    rintro r w2 ⟨rfl, hb2⟩
    replace hR := RdAt.stay hR hb2
    replace hS := hS.trans (Save.of hb2)
    cases hok : (fInt X).2
    · have HR : Hid (St.read ⟨l, 0⟩ 8 fInt 0 = (0, St.broke)) := read_bad HN.out (by rw [← HX.out]; exact hok)
      obtain ⟨a2, c2, hR⟩ := hR
      go_wp2_with fail
      refine (breaks_calls hR).mono ?_
      rintro r w3 ⟨rfl, hR3, hS3⟩
      go_wp2_with fail
      go_ret
      rw [HR.out]
      exact ⟨rfl, hR3, hS.trans hS3⟩
    · have HR : Hid (St.read ⟨l, 0⟩ 8 fInt 0 = ((fInt X).1, ⟨l.drop 8, 0⟩)) := by rw [Hid, HX.out]; exact read_yes HN.out (by rw [← HX.out]; exact hok)
      go_wp2_with fail
      go_ret
      rw [HR.out]
      exact ⟨rfl, hR, hS⟩
  · have hno : e = 0 → (l.length : Int) < 8 := fun he => by have := fun h => hy ⟨he, h⟩; omega
    have hk := take_no h 8 hno
    have HR : Hid (St.read ⟨l, e⟩ 8 fInt 0 = (0, St.breaks ⟨l, e⟩)) := read_no (fun he => by have := hno he; omega)
    clear hno hy
    go_enter Try.func62, Try.ntmps62
    go_wp2_with fail
    refine Calls.mono hk ?_
    rintro r w1 ⟨rfl, hR, hS⟩
    go_wp2_with fail
    go_ret
    rw [HR.out]
    exact ⟨rfl, hR, hS⟩

theorem rint_calls {base top w b a l c e} (h : Rd base top w b a l c e) :
    Calls Try.prog 27 #[.pointer (some ⟨b, 0, none⟩)] w fun r w' => r = .returned (.int .i64 (St.read ⟨l, e⟩ 8 fInt 0).1) ∧ RdAt base top w' b (St.read ⟨l, e⟩ 8 fInt 0).2 ∧ Save (· ≠ b) w w' := by
  go_enter Try.func27, Try.ntmps27
  go_wp2_with fail
  refine (int_field h).mono ?_
  rintro r w1 ⟨rfl, hR, hS⟩
  go_wp2_with fail
  go_ret
  exact ⟨rfl, hR, hS⟩

theorem flag_field {base top w b a l c e} (h : Rd base top w b a l c e) :
    Calls Try.prog 65 #[.pointer (some ⟨b, 0, none⟩), .int .i64 1, .func (.func 66) #[] #[]] w fun r w' => r = .returned (.bool (St.read ⟨l, e⟩ 1 fFlag false).1) ∧ RdAt base top w' b (St.read ⟨l, e⟩ 1 fFlag false).2 ∧ Save (· ≠ b) w w' := by
  by_cases hy : e = 0 ∧ 1 ≤ l.length
  · obtain ⟨rfl, hn⟩ := hy
    have hk := take_yes h 1 hn
    have HN := Lib.hid hn
    rw [show ((1 : Nat) : Int) = 1 from rfl] at hk
    go_enter Try.func65, Try.ntmps65
    go_wp2_with fail
    refine Calls.mono hk ?_
    rintro r w1 ⟨a1, X, c1, HX, rfl, r1, hR, hS⟩
    have hX : X.length = 1 := by rw [HX.out, List.length_take]; omega
    have hi := flag_is w1 r1 hX
    clear hX hk hn
    go_wp2_with fail
    refine Calls.mono hi ?_
    rintro r w2 ⟨rfl, hb2⟩
    replace hR := RdAt.stay hR hb2
    replace hS := hS.trans (Save.of hb2)
    cases hok : (fFlag X).2
    · have HR : Hid (St.read ⟨l, 0⟩ 1 fFlag false = (false, St.broke)) := read_bad HN.out (by rw [← HX.out]; exact hok)
      obtain ⟨a2, c2, hR⟩ := hR
      go_wp2_with fail
      refine (breaks_calls hR).mono ?_
      rintro r w3 ⟨rfl, hR3, hS3⟩
      go_wp2_with fail
      go_ret
      rw [HR.out]
      exact ⟨rfl, hR3, hS.trans hS3⟩
    · have HR : Hid (St.read ⟨l, 0⟩ 1 fFlag false = ((fFlag X).1, ⟨l.drop 1, 0⟩)) := by rw [Hid, HX.out]; exact read_yes HN.out (by rw [← HX.out]; exact hok)
      go_wp2_with fail
      go_ret
      rw [HR.out]
      exact ⟨rfl, hR, hS⟩
  · have hno : e = 0 → (l.length : Int) < 1 := fun he => by have := fun h => hy ⟨he, h⟩; omega
    have hk := take_no h 1 hno
    have HR : Hid (St.read ⟨l, e⟩ 1 fFlag false = (false, St.breaks ⟨l, e⟩)) := read_no (fun he => by have := hno he; omega)
    clear hno hy
    go_enter Try.func65, Try.ntmps65
    go_wp2_with fail
    refine Calls.mono hk ?_
    rintro r w1 ⟨rfl, hR, hS⟩
    go_wp2_with fail
    go_ret
    rw [HR.out]
    exact ⟨rfl, hR, hS⟩

theorem rflag_calls {base top w b a l c e} (h : Rd base top w b a l c e) :
    Calls Try.prog 28 #[.pointer (some ⟨b, 0, none⟩)] w fun r w' => r = .returned (.bool (St.read ⟨l, e⟩ 1 fFlag false).1) ∧ RdAt base top w' b (St.read ⟨l, e⟩ 1 fFlag false).2 ∧ Save (· ≠ b) w w' := by
  go_enter Try.func28, Try.ntmps28
  go_wp2_with fail
  refine (flag_field h).mono ?_
  rintro r w1 ⟨rfl, hR, hS⟩
  go_wp2_with fail
  go_ret
  exact ⟨rfl, hR, hS⟩

theorem len_field {base top w b a l c e} (h : Rd base top w b a l c e) :
    Calls Try.prog 62 #[.pointer (some ⟨b, 0, none⟩), .int .i64 4, .func (.func 67) #[] #[]] w fun r w' => r = .returned (.int .i64 (St.read ⟨l, e⟩ 4 fLen 0).1) ∧ RdAt base top w' b (St.read ⟨l, e⟩ 4 fLen 0).2 ∧ Save (· ≠ b) w w' := by
  by_cases hy : e = 0 ∧ 4 ≤ l.length
  · obtain ⟨rfl, hn⟩ := hy
    have hk := take_yes h 4 hn
    have HN := Lib.hid hn
    rw [show ((4 : Nat) : Int) = 4 from rfl] at hk
    go_enter Try.func62, Try.ntmps62
    go_wp2_with fail
    refine Calls.mono hk ?_
    rintro r w1 ⟨a1, X, c1, HX, rfl, r1, hR, hS⟩
    have hX : X.length = 4 := by rw [HX.out, List.length_take]; omega
    have hi := len_is w1 r1 hX
    clear hX hk hn
    go_wp2_with fail
    refine Calls.mono hi ?_
    rintro r w2 ⟨rfl, hb2⟩
    replace hR := RdAt.stay hR hb2
    replace hS := hS.trans (Save.of hb2)
    cases hok : (fLen X).2
    · have HR : Hid (St.read ⟨l, 0⟩ 4 fLen 0 = (0, St.broke)) := read_bad HN.out (by rw [← HX.out]; exact hok)
      obtain ⟨a2, c2, hR⟩ := hR
      go_wp2_with fail
      refine (breaks_calls hR).mono ?_
      rintro r w3 ⟨rfl, hR3, hS3⟩
      go_wp2_with fail
      go_ret
      rw [HR.out]
      exact ⟨rfl, hR3, hS.trans hS3⟩
    · have HR : Hid (St.read ⟨l, 0⟩ 4 fLen 0 = ((fLen X).1, ⟨l.drop 4, 0⟩)) := by rw [Hid, HX.out]; exact read_yes HN.out (by rw [← HX.out]; exact hok)
      go_wp2_with fail
      go_ret
      rw [HR.out]
      exact ⟨rfl, hR, hS⟩
  · have hno : e = 0 → (l.length : Int) < 4 := fun he => by have := fun h => hy ⟨he, h⟩; omega
    have hk := take_no h 4 hno
    have HR : Hid (St.read ⟨l, e⟩ 4 fLen 0 = (0, St.breaks ⟨l, e⟩)) := read_no (fun he => by have := hno he; omega)
    clear hno hy
    go_enter Try.func62, Try.ntmps62
    go_wp2_with fail
    refine Calls.mono hk ?_
    rintro r w1 ⟨rfl, hR, hS⟩
    go_wp2_with fail
    go_ret
    rw [HR.out]
    exact ⟨rfl, hR, hS⟩

end Go.Proofs.Ytglmijcfdcajkaa
