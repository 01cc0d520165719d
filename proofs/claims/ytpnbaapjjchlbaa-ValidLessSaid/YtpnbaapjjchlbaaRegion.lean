/- region.May, End, Apart; the reference's May, Has, Apart; channel.May, All; schedule.May: walked. -/
import Derived.Test.YtpnbaapjjchlbaaCfg
import Derived.Test.YtpnbaapjjchlbaaAfter
namespace Go.Proofs.Ytpnbaapjjchlbaa
open Go Go.RowKit Go.Cit

/-- What a region may be. -/
def mayR (r : Reg) : Bool := decide (0 ≤ r.base.1 ∧ r.base.1 % 4 = 0 ∧ r.size.1 % 4 = 0 ∧ 16 ≤ r.size.1 ∧ r.size.1 ≤ 512 ∧ r.base.1 + r.size.1 ≤ 4096)

theorem tm0 (z : Int) : (z.tmod 4 = 0) = (z % 4 = 0) := by
  apply propext
  exact ⟨fun h => Int.emod_eq_zero_of_dvd (Int.dvd_of_tmod_eq_zero h), fun h => Int.tmod_eq_zero_of_dvd (Int.dvd_of_emod_eq_zero h)⟩

theorem rmay_calls (w : World) (r : Reg) : Calls Try.prog 71 #[.agg #[.int .i64 r.base.1, .int .i64 r.size.1]] w fun e w' => e = .returned (.bool (mayR r)) ∧ Below w.heap.size w w' := by
  obtain ⟨R, HR⟩ : ∃ R, Hid (R = mayR r) := ⟨_, rfl⟩
  rw [← HR.out]
  obtain ⟨⟨x, hx⟩, ⟨y, hy⟩⟩ := r
  have B := Lib.hid ((Below.refl _ w).alloc (Nat.le_refl _) (.cells #[.int .i64 x, .int .i64 y] 40))
  go_enter Try.func71, Try.ntmps71
  go_wp2_with fail
  all_goals
    go_ret
    refine ⟨ret_bool ?_, B.out⟩
    rw [HR.out, mayR]
    try simp only [tm0] at *
    first | (refine (decide_eq_false ?_).symm; omega) | (refine (decide_eq_true ?_).symm; omega) | (refine decide_eq_decide.2 ?_; omega)

theorem refrmay_calls (w : World) (r : Reg) : Calls Try.prog 61 #[.agg #[.int .i64 r.base.1, .int .i64 r.size.1]] w fun e w' => e = .returned (.bool (mayR r)) ∧ Below w.heap.size w w' := by
  obtain ⟨R, HR⟩ : ∃ R, Hid (R = mayR r) := ⟨_, rfl⟩
  rw [← HR.out]
  obtain ⟨⟨x, hx⟩, ⟨y, hy⟩⟩ := r
  have B := Lib.hid ((Below.refl _ w).alloc (Nat.le_refl _) (.cells #[.int .i64 x, .int .i64 y] 40))
  go_enter Try.func61, Try.ntmps61
  go_wp2_with fail
  all_goals
    go_ret
    refine ⟨ret_bool ?_, B.out⟩
    rw [HR.out, mayR]
    try simp only [tm0] at *
    first | (refine (decide_eq_false ?_).symm; omega) | (refine (decide_eq_true ?_).symm; omega) | (refine decide_eq_decide.2 ?_; omega)

/-- Where a region ends. -/
def endR (r : Reg) : Int := if mayR r then r.base.1 + r.size.1 else 0
theorem mayR_spec {r : Reg} (h : mayR r = true) : 0 ≤ r.base.1 ∧ r.base.1 % 4 = 0 ∧ r.size.1 % 4 = 0 ∧ 16 ≤ r.size.1 ∧ r.size.1 ≤ 512 ∧ r.base.1 + r.size.1 ≤ 4096 := by
  unfold mayR at h
  simpa using h
theorem box2 (w : World) (x y : Value) (T : TypeId) : (w.alloc (.cells #[x, y] T)).cell? ⟨w.heap.size, 0, none⟩ = some x ∧ (w.alloc (.cells #[x, y] T)).cell? ⟨w.heap.size, 1, none⟩ = some y := by
  constructor <;> (rw [World.cell?, heap_alloc_new]; rfl)

theorem rend_calls (w : World) (r : Reg) : Calls Try.prog 137 #[.agg #[.int .i64 r.base.1, .int .i64 r.size.1]] w fun e w' => e = .returned (.int .i64 (endR r)) ∧ Below w.heap.size w w' := by
  obtain ⟨R, HR⟩ : ∃ R, Hid (R = endR r) := ⟨_, rfl⟩
  obtain ⟨m, hm⟩ : ∃ m, m = mayR r := ⟨_, rfl⟩
  have HC := Lib.hid (rmay_calls (w.alloc (.cells #[.int .i64 r.base.1, .int .i64 r.size.1] 40)) r)
  have HB := Lib.hid (box2 w (.int .i64 r.base.1) (.int .i64 r.size.1) 40)
  have B := Lib.hid ((Below.refl _ w).alloc (Nat.le_refl _) (.cells #[.int .i64 r.base.1, .int .i64 r.size.1] 40))
  have HS := Lib.hid (fun h => mayR_spec (r := r) h)
  rw [← HR.out]
  rw [← hm] at HC HS
  have HM := Lib.hid hm
  clear hm
  go_enter Try.func137, Try.ntmps137
  go_wp2_with fail
  refine HC.out.mono ?_
  rintro e w' ⟨rfl, hb⟩
  have c0 := keep hb HB.out.1
  have c1 := keep hb HB.out.2
  have B2 := Lib.hid (B.out.trans (hb.mono B.out.size))
  clear hb
  cases m with
  | false =>
    go_wp2_with fail
    go_ret
    exact ⟨ret_int (by rw [HR.out, endR, ← HM.out]; rfl), B2.out⟩
  | true =>
    have hs := HS.out rfl
    go_wp2_with fail
    go_ret
    exact ⟨ret_int (by rw [HR.out, endR, ← HM.out]; rfl), B2.out⟩

def apartR (a b : Reg) : Bool := mayR a && mayR b && (decide (endR a ≤ b.base.1) || decide (endR b ≤ a.base.1))
set_option maxHeartbeats 1000000 in
theorem rapart_calls (w : World) (r s : Reg) : Calls Try.prog 73 #[.agg #[.int .i64 r.base.1, .int .i64 r.size.1], .agg #[.int .i64 s.base.1, .int .i64 s.size.1]] w fun e w' => e = .returned (.bool (apartR r s)) ∧ Below w.heap.size w w' := by
  obtain ⟨R, HR⟩ : ∃ R, Hid (R = apartR r s) := ⟨_, rfl⟩
  obtain ⟨m, hm⟩ : ∃ m, Hid (m = mayR r) := ⟨_, rfl⟩
  obtain ⟨n, hn⟩ : ∃ n, Hid (n = mayR s) := ⟨_, rfl⟩
  obtain ⟨x, hx⟩ : ∃ n, Hid (n = endR r) := ⟨_, rfl⟩
  obtain ⟨y, hy⟩ : ∃ n, Hid (n = endR s) := ⟨_, rfl⟩
  have HC1 := Lib.hid (fun w => rmay_calls w r)
  have HC2 := Lib.hid (fun w => rmay_calls w s)
  have HE1 := Lib.hid (fun w => rend_calls w r)
  have HE2 := Lib.hid (fun w => rend_calls w s)
  rw [← hm.out] at HC1
  rw [← hn.out] at HC2
  rw [← hx.out] at HE1
  rw [← hy.out] at HE2
  rw [← HR.out]
  have hr : ∃ w0, w0 = (w.alloc (.cells #[.int .i64 r.base.1, .int .i64 r.size.1] 40)).alloc (.cells #[.int .i64 s.base.1, .int .i64 s.size.1] 40) := ⟨_, rfl⟩
  obtain ⟨w0, hw0⟩ := hr
  have B : Below w.heap.size w w0 := by rw [hw0]; exact ((Below.refl _ w).alloc (Nat.le_refl _) _).alloc (by simp) _
  have c1 := box2 w (.int .i64 r.base.1) (.int .i64 r.size.1) 40
  have c2 := box2 (w.alloc (.cells #[.int .i64 r.base.1, .int .i64 r.size.1] 40)) (.int .i64 s.base.1) (.int .i64 s.size.1) 40
  rw [← hw0] at c2
  simp only [World.size_alloc] at c2
  have c1a : ∀ q : After w0, q.to.cell? ⟨w.heap.size, 0, none⟩ = some (.int .i64 r.base.1) := fun q => q.cell (by rw [hw0]; exact keepA _ c1.1)
  have c1b : ∀ q : After w0, q.to.cell? ⟨w.heap.size, 1, none⟩ = some (.int .i64 r.size.1) := fun q => q.cell (by rw [hw0]; exact keepA _ c1.2)
  have c2a : ∀ q : After w0, q.to.cell? ⟨w.heap.size + 1, 0, none⟩ = some (.int .i64 s.base.1) := fun q => q.cell c2.1
  have c2b : ∀ q : After w0, q.to.cell? ⟨w.heap.size + 1, 1, none⟩ = some (.int .i64 s.size.1) := fun q => q.cell c2.2
  clear c1 c2
  go_enter Try.func73, Try.ntmps73
  go_wp2_with fail
  rw [← hw0]
  clear hw0
  have HF : Hid (R = (m && n && (decide (x ≤ s.base.1) || decide (y ≤ r.base.1)))) := by rw [Hid, HR.out, hm.out, hn.out, hx.out, hy.out]; rfl
  cases m with
  | false =>
    refine wp_region_after (by kernel_rfl) (by kernel_rfl) ?_
    iterate 21
      refine wq_step (fun K hK => ?_)
      go_simp
      first
        | (refine hK _ ?_; clear hK K)
        | (apply Exists.intro
           refine ⟨fun _ => ?_, hK _ ?_⟩
           first | with_reducible exact after_calls (HC1.out _) | with_reducible exact after_calls (HC2.out _) | with_reducible exact after_calls (HE1.out _) | with_reducible exact after_calls (HE2.out _)
           clear hK K)
    refine wq_nil ?_
    intro _ hw'
    obtain ⟨⟨w1, hb1⟩, hw'⟩ := hw'
    subst hw'
    go_wp2_with fail
    go_ret
    exact ⟨ret_bool (by rw [HF.out]; rfl), B.trans (hb1.mono B.size)⟩
  | true =>
    cases n with
    | false =>
      refine wp_region_after (by kernel_rfl) (by kernel_rfl) ?_
      iterate 21
        refine wq_step (fun K hK => ?_)
        go_simp
        first
          | (refine hK _ ?_; clear hK K)
          | (apply Exists.intro
             refine ⟨fun _ => ?_, hK _ ?_⟩
             first | with_reducible exact after_calls (HC1.out _) | with_reducible exact after_calls (HC2.out _) | with_reducible exact after_calls (HE1.out _) | with_reducible exact after_calls (HE2.out _)
             clear hK K)
      refine wq_nil ?_
      intro _ hw'
      obtain ⟨⟨w1, hb1⟩, hw'⟩ := hw'
      subst hw'
      go_wp2_with fail
      go_ret
      exact ⟨ret_bool (by rw [HF.out]; rfl), B.trans (hb1.mono B.size)⟩
    | true =>
      by_cases h1 : x ≤ s.base.1
      · refine wp_region_after (by kernel_rfl) (by kernel_rfl) ?_
        iterate 21
          refine wq_step (fun K hK => ?_)
          go_simp
          first
            | (refine hK _ ?_; clear hK K)
            | (apply Exists.intro
               refine ⟨fun _ => ?_, hK _ ?_⟩
               first | with_reducible exact after_calls (HC1.out _) | with_reducible exact after_calls (HC2.out _) | with_reducible exact after_calls (HE1.out _) | with_reducible exact after_calls (HE2.out _)
               clear hK K)
        refine wq_nil ?_
        intro _ hw'
        obtain ⟨⟨w1, hb1⟩, hw'⟩ := hw'
        subst hw'
        go_wp2_with fail
        go_ret
        exact ⟨ret_bool (by rw [HF.out]; simp; omega), B.trans (hb1.mono B.size)⟩
      · by_cases h2 : y ≤ r.base.1
        · refine wp_region_after (by kernel_rfl) (by kernel_rfl) ?_
          iterate 21
            refine wq_step (fun K hK => ?_)
            go_simp
            first
              | (refine hK _ ?_; clear hK K)
              | (apply Exists.intro
                 refine ⟨fun _ => ?_, hK _ ?_⟩
                 first | with_reducible exact after_calls (HC1.out _) | with_reducible exact after_calls (HC2.out _) | with_reducible exact after_calls (HE1.out _) | with_reducible exact after_calls (HE2.out _)
                 clear hK K)
          refine wq_nil ?_
          intro _ hw'
          obtain ⟨⟨w1, hb1⟩, hw'⟩ := hw'
          subst hw'
          go_wp2_with fail
          go_ret
          exact ⟨ret_bool (by rw [HF.out]; simp; omega), B.trans (hb1.mono B.size)⟩
        · refine wp_region_after (by kernel_rfl) (by kernel_rfl) ?_
          iterate 21
            refine wq_step (fun K hK => ?_)
            go_simp
            first
              | (refine hK _ ?_; clear hK K)
              | (apply Exists.intro
                 refine ⟨fun _ => ?_, hK _ ?_⟩
                 first | with_reducible exact after_calls (HC1.out _) | with_reducible exact after_calls (HC2.out _) | with_reducible exact after_calls (HE1.out _) | with_reducible exact after_calls (HE2.out _)
                 clear hK K)
          refine wq_nil ?_
          intro _ hw'
          obtain ⟨⟨w1, hb1⟩, hw'⟩ := hw'
          subst hw'
          go_wp2_with fail
          go_ret
          exact ⟨ret_bool (by rw [HF.out]; simp; omega), B.trans (hb1.mono B.size)⟩

/-! The reference: byte by byte. -/
def hasR (r : Reg) (z : Int) : Bool := mayR r && (decide (r.base.1 ≤ z) && decide (z - r.base.1 < r.size.1))
theorem refrhas_calls (w : World) (r : Reg) (z : Int) (hz : 0 ≤ z ∧ z ≤ 10000) : Calls Try.prog 133 #[.agg #[.int .i64 r.base.1, .int .i64 r.size.1], .int .i64 z] w fun e w' => e = .returned (.bool (hasR r z)) ∧ Below w.heap.size w w' := by
  obtain ⟨R, HR⟩ : ∃ R, Hid (R = hasR r z) := ⟨_, rfl⟩
  obtain ⟨m, hm⟩ : ∃ m, m = mayR r := ⟨_, rfl⟩
  have HC := Lib.hid (refrmay_calls (w.alloc (.cells #[.int .i64 r.base.1, .int .i64 r.size.1] 40)) r)
  have HB := Lib.hid (box2 w (.int .i64 r.base.1) (.int .i64 r.size.1) 40)
  have B := Lib.hid ((Below.refl _ w).alloc (Nat.le_refl _) (.cells #[.int .i64 r.base.1, .int .i64 r.size.1] 40))
  have HS := Lib.hid (fun h => mayR_spec (r := r) h)
  rw [← HR.out]
  rw [← hm] at HC HS
  have HM := Lib.hid hm
  clear hm
  go_enter Try.func133, Try.ntmps133
  go_wp2_with fail
  refine (HC.out).mono ?_
  rintro e w' ⟨rfl, hb⟩
  have c0 := keep hb HB.out.1
  have c1 := keep hb HB.out.2
  have B2 := Lib.hid (B.out.trans (hb.mono B.out.size))
  clear hb
  cases m with
  | false =>
    go_wp2_with fail
    go_ret
    exact ⟨ret_bool (by rw [HR.out, hasR, ← HM.out]; rfl), B2.out⟩
  | true =>
    have hs := HS.out rfl
    go_wp2_with fail
    all_goals
      go_ret
      refine ⟨ret_bool ?_, B2.out⟩
      rw [HR.out, hasR, ← HM.out]
      simp
      try omega

/-- Below a place nothing of b is met, in steps of 4. -/
def clearTo (a b : Reg) (k : Nat) : Bool := (List.range k).all fun i => !hasR b (a.base.1 + 4 * i)
def rapartR (a b : Reg) : Bool := mayR a && mayR b && clearTo a b ((a.size.1 / 4).toNat)
theorem clearTo_succ (a b : Reg) (k : Nat) : clearTo a b (k + 1) = (clearTo a b k && !hasR b (a.base.1 + 4 * k)) := by
  unfold clearTo; rw [List.range_succ, List.all_append]; simp
theorem clearTo_mono (a b : Reg) (k n : Nat) (h : k ≤ n) (hk : clearTo a b k = false) : clearTo a b n = false := by
  obtain ⟨d, rfl⟩ : ∃ d, n = k + d := ⟨n - k, by omega⟩
  induction d with
  | zero => exact hk
  | succ d ih => rw [← Nat.add_assoc, clearTo_succ, ih (by omega), Bool.false_and]
theorem rapartR_eq (a b : Reg) : rapartR a b = apartR a b := by
  unfold rapartR apartR
  cases hm : mayR a <;> cases hn : mayR b <;> simp only [Bool.false_and, Bool.true_and, Bool.and_false]
  have h1 := mayR_spec hm
  have h2 := mayR_spec hn
  rw [endR, endR, hm, hn, if_pos rfl, if_pos rfl, Bool.eq_iff_iff, Bool.or_eq_true, decide_eq_true_iff, decide_eq_true_iff]
  unfold clearTo
  rw [List.all_eq_true]
  constructor
  · intro h
    by_cases hlo : b.base.1 < a.base.1 + a.size.1
    · by_cases hhi : a.base.1 < b.base.1 + b.size.1
      · exfalso
        by_cases hab : a.base.1 ≤ b.base.1
        · have := h ((b.base.1 - a.base.1) / 4).toNat (List.mem_range.2 (by omega))
          simp [hasR, hn] at this
          have e : a.base.1 + 4 * max ((b.base.1 - a.base.1) / 4) 0 = b.base.1 := by omega
          rw [e] at this
          omega
        · have := h 0 (List.mem_range.2 (by omega))
          simp [hasR, hn] at this
          omega
      · omega
    · omega
  · intro h i hi
    have := List.mem_range.1 hi
    simp [hasR, hn]
    omega

set_option maxRecDepth 100000 in
set_option maxHeartbeats 1000000 in
theorem refrapart_calls (w : World) (r s : Reg) : Calls Try.prog 62 #[.agg #[.int .i64 r.base.1, .int .i64 r.size.1], .agg #[.int .i64 s.base.1, .int .i64 s.size.1]] w fun e w' => e = .returned (.bool (apartR r s)) ∧ Below w.heap.size w w' := by
  rw [← rapartR_eq]
  obtain ⟨R, HR⟩ : ∃ R, Hid (R = rapartR r s) := ⟨_, rfl⟩
  obtain ⟨m, hm⟩ : ∃ m, Hid (m = mayR r) := ⟨_, rfl⟩
  obtain ⟨n, hn⟩ : ∃ n, Hid (n = mayR s) := ⟨_, rfl⟩
  have HC1 := Lib.hid (fun w => refrmay_calls w r)
  have HC2 := Lib.hid (fun w => refrmay_calls w s)
  rw [← hm.out] at HC1
  rw [← hn.out] at HC2
  rw [← HR.out]
  obtain ⟨w0, hw0⟩ : ∃ w0, w0 = (w.alloc (.cells #[.int .i64 r.base.1, .int .i64 r.size.1] 40)).alloc (.cells #[.int .i64 s.base.1, .int .i64 s.size.1] 40) := ⟨_, rfl⟩
  have B : Below w.heap.size w w0 := by rw [hw0]; exact ((Below.refl _ w).alloc (Nat.le_refl _) _).alloc (by simp) _
  have c1 := box2 w (.int .i64 r.base.1) (.int .i64 r.size.1) 40
  have c2 := box2 (w.alloc (.cells #[.int .i64 r.base.1, .int .i64 r.size.1] 40)) (.int .i64 s.base.1) (.int .i64 s.size.1) 40
  rw [← hw0] at c2
  simp only [World.size_alloc] at c2
  have c1a : w0.cell? ⟨w.heap.size, 0, none⟩ = some (.int .i64 r.base.1) := by rw [hw0]; exact keepA _ c1.1
  have c1b : w0.cell? ⟨w.heap.size, 1, none⟩ = some (.int .i64 r.size.1) := by rw [hw0]; exact keepA _ c1.2
  obtain ⟨c2a, c2b⟩ := c2
  have BB := Lib.hid B
  clear c1 B
  go_enter Try.func62, Try.ntmps62
  go_wp2_with fail
  rw [← hw0]
  clear hw0
  refine (HC1.out _).mono ?_
  rintro e w1 ⟨rfl, hb1⟩
  have c1a := keep hb1 c1a
  have c1b := keep hb1 c1b
  have c2a := keep hb1 c2a
  have c2b := keep hb1 c2b
  have BB := Lib.hid (BB.out.trans (hb1.mono BB.out.size))
  clear hb1
  cases m with
  | false =>
    go_wp2_with fail
    go_ret
    exact ⟨ret_bool (by rw [HR.out, rapartR, ← hm.out]; rfl), BB.out⟩
  | true =>
    go_wp2_with fail
    refine (HC2.out _).mono ?_
    rintro e w1 ⟨rfl, hb1⟩
    have c1a := keep hb1 c1a
    have c1b := keep hb1 c1b
    have c2a := keep hb1 c2a
    have c2b := keep hb1 c2b
    have BB := Lib.hid (BB.out.trans (hb1.mono BB.out.size))
    clear hb1
    cases n with
    | false =>
      go_wp2_with fail
      go_ret
      exact ⟨ret_bool (by rw [HR.out, rapartR, ← hm.out, ← hn.out]; rfl), BB.out⟩
    | true =>
      have hs := mayR_spec hm.out.symm
      obtain ⟨N, hN⟩ : ∃ N : Nat, r.size.1 = 4 * (N : Int) := ⟨(r.size.1 / 4).toNat, by omega⟩
      have HRN : Hid (R = clearTo r s N) := by
        rw [Hid, HR.out, rapartR, ← hm.out, ← hn.out, hN]
        simp
      obtain ⟨x, hx⟩ : ∃ x : Int, x = r.base.1 := ⟨_, rfl⟩
      obtain ⟨y, hy⟩ : ∃ y : Int, y = r.size.1 := ⟨_, rfl⟩
      rw [← hx, ← hy] at hs
      rw [← hx] at c1a
      rw [← hy] at c1b hN
      have HX := Lib.hid hx
      clear HC1 HR hx hy
      go_wp2_with fail
      go_loopw [5] (fun i wr => ∃ (k : Nat) (z : Int), Hid (clearTo r s k = true) ∧ k ≤ N ∧ Hid (z = x + 4 * k) ∧ i = .int .i64 z ∧ Below w1.heap.size w1 wr) (fun i _ => N - ((intOf i - x) / 4).toNat)
      case atStart => exact ⟨0, x, rfl, by omega, by rw [Hid]; omega, rfl, Below.refl _ _⟩
      case round =>
        obtain ⟨k, z, hcl, hk, hz, rfl, B⟩ := hrel
        have c1a := keep B c1a
        have c1b := keep B c1b
        have c2a := keep B c2a
        have c2b := keep B c2b
        have BB2 := Lib.hid (BB.out.trans (B.mono BB.out.size))
        by_cases hlt : k < N
        · have hz1 : z < x + 4 * (N : Int) := by have := hz.out; omega
          have hz2 : 0 ≤ z := by have := hz.out; omega
          have HH := Lib.hid (refrhas_calls wr s z (by have := hz.out; omega))
          have HCS : Hid (clearTo r s (k + 1) = !hasR s z) := by rw [Hid, clearTo_succ, hcl.out, Bool.true_and, hz.out, HX.out]
          cases hq : hasR s z with
          | true =>
            rw [hq] at HH HCS
            go_wp2_with fail
            refine (HH.out).mono ?_
            rintro e w2 ⟨rfl, hb2⟩
            go_wp2_with fail
            go_ret
            refine ⟨ret_bool ?_, BB2.out.trans (hb2.mono BB2.out.size)⟩
            rw [HRN.out, clearTo_mono r s (k + 1) N (by omega) HCS.out]
          | false =>
            rw [hq] at HH HCS
            go_wp2_with fail
            refine (HH.out).mono ?_
            rintro e w2 ⟨rfl, hb2⟩
            go_wp2_with fail
            go_roundw
            case rel => exact ⟨k + 1, z + 4, HCS.out, by omega, by rw [Hid, hz.out]; omega, by go_num, B.trans (hb2.mono B.size)⟩
            case measure => have := hz.out; simp [intOf]; omega
        · have hk2 : k = N := by omega
          have hz2 := hz.out
          rw [hk2] at hz2 hcl
          have hz3 : ¬ z < x + 4 * (N : Int) := by omega
          clear hz2
          go_wp2_with fail
          go_ret
          exact ⟨ret_bool (by rw [HRN.out, hcl.out]), BB2.out⟩
end Go.Proofs.Ytpnbaapjjchlbaa
