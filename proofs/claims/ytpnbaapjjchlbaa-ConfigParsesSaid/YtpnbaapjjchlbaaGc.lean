/- Texts of the proof, one behind the other: After, Region, Chan, Find, Sched, Box. No condition but those that each names. -/
import Derived.Test.YtpnbaapjjchlbaaGa
import Derived.Test.YtpnbaapjjchlbaaGb
import Derived.Deep.WholeRow
import Derived.Deep.MidRow
import Derived.Laws.Tables
/- A region that draws its order, whose operations only read, and whose callees leave alone what lay there: walked once, in the order of the text. No condition. -/
namespace Go.Cit
open Go Go.RowKit

/-- A world in which what lay in w lies as it lay. -/
structure After (w : World) where
  to : World
  bel : Below w.heap.size w to

instance (w : World) : Inhabited (After w) := ⟨⟨w, Below.refl _ _⟩⟩
/-- What is still to be walked (a name that nothing unfolds). -/
structure Wq (P : Program) (ops : Array Oper) (C : World → Prop) (Q : Act → Prop) (l : List Oper) (a : Act) : Prop where
  out : wpQuiet P ops C Q l a
theorem wq_step {P : Program} {ops : Array Oper} {C : World → Prop} {Q : Act → Prop} {a : Act} {o : Oper} {rest : List Oper}
    (h : ∀ K : Act → Prop, (∀ a, Wq P ops C Q rest a → K a) → if Region.wanted o (yielded ops a.tmps) then o.quiet P a C K else K (a.put o.dst undef)) : Wq P ops C Q (o :: rest) a :=
  ⟨wpQuiet_step fun K hK => h K fun a ha => hK a ha.out⟩
theorem wq_nil {P : Program} {ops : Array Oper} {C : World → Prop} {Q : Act → Prop} {a : Act} (h : Q a) : Wq P ops C Q [] a := ⟨wpQuiet_nil h⟩
theorem wp_region_after {P : Program} {id : Nat} {Q : Exit → Act → World → Prop} {a : Act} {w : World} {l : List Oper} (hm : P.follows .mixedOrders = true) (hB : Region.lexB .any l.toArray = true)
    (h : Wq P l.toArray (fun w' => ∃ q : After w, w' = q.to) (fun a' => ∀ w', (∃ q : After w, w' = q.to) → Q .normal a' w') l a) : (Code.region id l.toArray true).wp P Q a w :=
  wp_region_quiet (C := fun w' => ∃ q : After w, w' = q.to) hm hB ⟨⟨_, (Below.refl _ w).drew⟩, rfl⟩ (by simpa using h.out)
theorem after_calls {P : Program} {f : FuncId} {args : Array Value} {w : World} {q : After w} {v : Value}
    (h : Calls P f args q.to fun e w' => e = .returned v ∧ Below q.to.heap.size q.to w') : Calls P f args q.to fun e w'' => e = .returned v ∧ ∃ p : After w, w'' = p.to :=
  h.mono fun _ _ ⟨he, hb⟩ => ⟨he, ⟨_, q.bel.trans (hb.mono q.bel.size)⟩, rfl⟩
theorem After.cell {w : World} {p : Addr} {v : Value} (h : w.cell? p = some v) (q : After w) : q.to.cell? p = some v := (q.bel.cell (World.block_lt_of_cell? w _ h)).trans h
theorem keep {w w' : World} {p : Addr} {v : Value} (hb : Below w.heap.size w w') (h : w.cell? p = some v) : w'.cell? p = some v := (hb.cell (World.block_lt_of_cell? w _ h)).trans h
theorem keepA {w : World} {p : Addr} {v : Value} (o : Obj) (h : w.cell? p = some v) : (w.alloc o).cell? p = some v := keep ((Below.refl _ w).alloc (Nat.le_refl _) o) h
end Go.Cit

/- region.May, End, Apart; the reference's May, Has, Apart; channel.May, All; schedule.May: walked. -/
namespace Go.Proofs.Ytpnbaapjjchlbaa
open Go Go.RowKit Go.Cit

/-- What a region may be. -/
def mayR (r : Reg) : Bool := decide (0 ≤ r.base.1 ∧ r.base.1 % 4 = 0 ∧ r.size.1 % 4 = 0 ∧ 16 ≤ r.size.1 ∧ r.size.1 ≤ 512 ∧ r.base.1 + r.size.1 ≤ 4096)

theorem tm0 (z : Int) : (z.tmod 4 = 0) = (z % 4 = 0) := by
  apply propext
  exact ⟨fun h => Int.emod_eq_zero_of_dvd (Int.dvd_of_tmod_eq_zero h), fun h => Int.tmod_eq_zero_of_dvd (Int.dvd_of_emod_eq_zero h)⟩

theorem rmay_calls (w : World) (r : Reg) : Calls Try.prog 71 #[.agg #[.int .i64 r.base.1, .int .i64 r.size.1]] w fun e w' => e = .returned (.bool (mayR r)) ∧ Below w.heap.size w w' := by
  obtain ⟨R, HR⟩ : ∃ R, Hid (R = mayR r) := ⟨_, rfl⟩
  rw [← HR.out]
  obtain ⟨⟨x, hx⟩, ⟨y, hy⟩⟩ := r
  have B := Lib.hid ((Below.refl _ w).alloc (Nat.le_refl _) (.cells #[.int .i64 x, .int .i64 y] 40))
  go_enter Try.func71, Try.ntmps71
  go_wp2_with fail
  all_goals
    go_ret
    refine ⟨ret_bool ?_, B.out⟩
    rw [HR.out, mayR]
    try simp only [tm0] at *
    first | (refine (decide_eq_false ?_).symm; omega) | (refine (decide_eq_true ?_).symm; omega) | (refine decide_eq_decide.2 ?_; omega)

theorem refrmay_calls (w : World) (r : Reg) : Calls Try.prog 61 #[.agg #[.int .i64 r.base.1, .int .i64 r.size.1]] w fun e w' => e = .returned (.bool (mayR r)) ∧ Below w.heap.size w w' := by
  obtain ⟨R, HR⟩ : ∃ R, Hid (R = mayR r) := ⟨_, rfl⟩
  rw [← HR.out]
  obtain ⟨⟨x, hx⟩, ⟨y, hy⟩⟩ := r
  have B := Lib.hid ((Below.refl _ w).alloc (Nat.le_refl _) (.cells #[.int .i64 x, .int .i64 y] 40))
  go_enter Try.func61, Try.ntmps61
  go_wp2_with fail
  all_goals
    go_ret
    refine ⟨ret_bool ?_, B.out⟩
    rw [HR.out, mayR]
    try simp only [tm0] at *
    first | (refine (decide_eq_false ?_).symm; omega) | (refine (decide_eq_true ?_).symm; omega) | (refine decide_eq_decide.2 ?_; omega)

/-- Where a region ends. -/
def endR (r : Reg) : Int := if mayR r then r.base.1 + r.size.1 else 0
theorem mayR_spec {r : Reg} (h : mayR r = true) : 0 ≤ r.base.1 ∧ r.base.1 % 4 = 0 ∧ r.size.1 % 4 = 0 ∧ 16 ≤ r.size.1 ∧ r.size.1 ≤ 512 ∧ r.base.1 + r.size.1 ≤ 4096 := by
  unfold mayR at h
  simpa using h
theorem box2 (w : World) (x y : Value) (T : TypeId) : (w.alloc (.cells #[x, y] T)).cell? ⟨w.heap.size, 0, none⟩ = some x ∧ (w.alloc (.cells #[x, y] T)).cell? ⟨w.heap.size, 1, none⟩ = some y := by
  constructor <;> (rw [World.cell?, heap_alloc_new]; rfl)

theorem rend_calls (w : World) (r : Reg) : Calls Try.prog 137 #[.agg #[.int .i64 r.base.1, .int .i64 r.size.1]] w fun e w' => e = .returned (.int .i64 (endR r)) ∧ Below w.heap.size w w' := by
  obtain ⟨R, HR⟩ : ∃ R, Hid (R = endR r) := ⟨_, rfl⟩
  obtain ⟨m, hm⟩ : ∃ m, m = mayR r := ⟨_, rfl⟩
  have HC := Lib.hid (rmay_calls (w.alloc (.cells #[.int .i64 r.base.1, .int .i64 r.size.1] 40)) r)
  have HB := Lib.hid (box2 w (.int .i64 r.base.1) (.int .i64 r.size.1) 40)
  have B := Lib.hid ((Below.refl _ w).alloc (Nat.le_refl _) (.cells #[.int .i64 r.base.1, .int .i64 r.size.1] 40))
  have HS := Lib.hid (fun h => mayR_spec (r := r) h)
  rw [← HR.out]
  rw [← hm] at HC HS
  have HM := Lib.hid hm
  clear hm
  go_enter Try.func137, Try.ntmps137
  go_wp2_with fail
  refine HC.out.mono ?_
  rintro e w' ⟨rfl, hb⟩
  have c0 := keep hb HB.out.1
  have c1 := keep hb HB.out.2
  have B2 := Lib.hid (B.out.trans (hb.mono B.out.size))
  clear hb
  cases m with
  | false =>
    go_wp2_with fail
    go_ret
    exact ⟨ret_int (by rw [HR.out, endR, ← HM.out]; rfl), B2.out⟩
  | true =>
    have hs := HS.out rfl
    go_wp2_with fail
    go_ret
    exact ⟨ret_int (by rw [HR.out, endR, ← HM.out]; rfl), B2.out⟩

def apartR (a b : Reg) : Bool := mayR a && mayR b && (decide (endR a ≤ b.base.1) || decide (endR b ≤ a.base.1))
set_option maxHeartbeats 1000000 in
theorem rapart_calls (w : World) (r s : Reg) : Calls Try.prog 73 #[.agg #[.int .i64 r.base.1, .int .i64 r.size.1], .agg #[.int .i64 s.base.1, .int .i64 s.size.1]] w fun e w' => e = .returned (.bool (apartR r s)) ∧ Below w.heap.size w w' := by
  obtain ⟨R, HR⟩ : ∃ R, Hid (R = apartR r s) := ⟨_, rfl⟩
  obtain ⟨m, hm⟩ : ∃ m, Hid (m = mayR r) := ⟨_, rfl⟩
  obtain ⟨n, hn⟩ : ∃ n, Hid (n = mayR s) := ⟨_, rfl⟩
  obtain ⟨x, hx⟩ : ∃ n, Hid (n = endR r) := ⟨_, rfl⟩
  obtain ⟨y, hy⟩ : ∃ n, Hid (n = endR s) := ⟨_, rfl⟩
  have HC1 := Lib.hid (fun w => rmay_calls w r)
  have HC2 := Lib.hid (fun w => rmay_calls w s)
  have HE1 := Lib.hid (fun w => rend_calls w r)
  have HE2 := Lib.hid (fun w => rend_calls w s)
  rw [← hm.out] at HC1
  rw [← hn.out] at HC2
  rw [← hx.out] at HE1
  rw [← hy.out] at HE2
  rw [← HR.out]
  have hr : ∃ w0, w0 = (w.alloc (.cells #[.int .i64 r.base.1, .int .i64 r.size.1] 40)).alloc (.cells #[.int .i64 s.base.1, .int .i64 s.size.1] 40) := ⟨_, rfl⟩
  obtain ⟨w0, hw0⟩ := hr
  have B : Below w.heap.size w w0 := by rw [hw0]; exact ((Below.refl _ w).alloc (Nat.le_refl _) _).alloc (by simp) _
  have c1 := box2 w (.int .i64 r.base.1) (.int .i64 r.size.1) 40
  have c2 := box2 (w.alloc (.cells #[.int .i64 r.base.1, .int .i64 r.size.1] 40)) (.int .i64 s.base.1) (.int .i64 s.size.1) 40
  rw [← hw0] at c2
  simp only [World.size_alloc] at c2
  have c1a : ∀ q : After w0, q.to.cell? ⟨w.heap.size, 0, none⟩ = some (.int .i64 r.base.1) := fun q => q.cell (by rw [hw0]; exact keepA _ c1.1)
  have c1b : ∀ q : After w0, q.to.cell? ⟨w.heap.size, 1, none⟩ = some (.int .i64 r.size.1) := fun q => q.cell (by rw [hw0]; exact keepA _ c1.2)
  have c2a : ∀ q : After w0, q.to.cell? ⟨w.heap.size + 1, 0, none⟩ = some (.int .i64 s.base.1) := fun q => q.cell c2.1
  have c2b : ∀ q : After w0, q.to.cell? ⟨w.heap.size + 1, 1, none⟩ = some (.int .i64 s.size.1) := fun q => q.cell c2.2
  clear c1 c2
  go_enter Try.func73, Try.ntmps73
  go_wp2_with fail
  rw [← hw0]
  clear hw0
  have HF : Hid (R = (m && n && (decide (x ≤ s.base.1) || decide (y ≤ r.base.1)))) := by rw [Hid, HR.out, hm.out, hn.out, hx.out, hy.out]; rfl
  cases m with
  | false =>
    refine wp_region_after (by kernel_rfl) (by kernel_rfl) ?_
    iterate 21
      refine wq_step (fun K hK => ?_)
      go_simp
      first
        | (refine hK _ ?_; clear hK K)
        | (apply Exists.intro
           refine ⟨fun _ => ?_, hK _ ?_⟩
           first | with_reducible exact after_calls (HC1.out _) | with_reducible exact after_calls (HC2.out _) | with_reducible exact after_calls (HE1.out _) | with_reducible exact after_calls (HE2.out _)
           clear hK K)
    refine wq_nil ?_
    intro _ hw'
    obtain ⟨⟨w1, hb1⟩, hw'⟩ := hw'
    subst hw'
    go_wp2_with fail
    go_ret
    exact ⟨ret_bool (by rw [HF.out]; rfl), B.trans (hb1.mono B.size)⟩
  | true =>
    cases n with
    | false =>
      refine wp_region_after (by kernel_rfl) (by kernel_rfl) ?_
      iterate 21
        refine wq_step (fun K hK => ?_)
        go_simp
        first
          | (refine hK _ ?_; clear hK K)
          | (apply Exists.intro
             refine ⟨fun _ => ?_, hK _ ?_⟩
             first | with_reducible exact after_calls (HC1.out _) | with_reducible exact after_calls (HC2.out _) | with_reducible exact after_calls (HE1.out _) | with_reducible exact after_calls (HE2.out _)
             clear hK K)
      refine wq_nil ?_
      intro _ hw'
      obtain ⟨⟨w1, hb1⟩, hw'⟩ := hw'
      subst hw'
      go_wp2_with fail
      go_ret
      exact ⟨ret_bool (by rw [HF.out]; rfl), B.trans (hb1.mono B.size)⟩
    | true =>
      by_cases h1 : x ≤ s.base.1
      · refine wp_region_after (by kernel_rfl) (by kernel_rfl) ?_
        iterate 21
          refine wq_step (fun K hK => ?_)
          go_simp
          first
            | (refine hK _ ?_; clear hK K)
            | (apply Exists.intro
               refine ⟨fun _ => ?_, hK _ ?_⟩
               first | with_reducible exact after_calls (HC1.out _) | with_reducible exact after_calls (HC2.out _) | with_reducible exact after_calls (HE1.out _) | with_reducible exact after_calls (HE2.out _)
               clear hK K)
        refine wq_nil ?_
        intro _ hw'
        obtain ⟨⟨w1, hb1⟩, hw'⟩ := hw'
        subst hw'
        go_wp2_with fail
        go_ret
        exact ⟨ret_bool (by rw [HF.out]; simp; omega), B.trans (hb1.mono B.size)⟩
      · by_cases h2 : y ≤ r.base.1
        · refine wp_region_after (by kernel_rfl) (by kernel_rfl) ?_
          iterate 21
            refine wq_step (fun K hK => ?_)
            go_simp
            first
              | (refine hK _ ?_; clear hK K)
              | (apply Exists.intro
                 refine ⟨fun _ => ?_, hK _ ?_⟩
                 first | with_reducible exact after_calls (HC1.out _) | with_reducible exact after_calls (HC2.out _) | with_reducible exact after_calls (HE1.out _) | with_reducible exact after_calls (HE2.out _)
                 clear hK K)
          refine wq_nil ?_
          intro _ hw'
          obtain ⟨⟨w1, hb1⟩, hw'⟩ := hw'
          subst hw'
          go_wp2_with fail
          go_ret
          exact ⟨ret_bool (by rw [HF.out]; simp; omega), B.trans (hb1.mono B.size)⟩
        · refine wp_region_after (by kernel_rfl) (by kernel_rfl) ?_
          iterate 21
            refine wq_step (fun K hK => ?_)
            go_simp
            first
              | (refine hK _ ?_; clear hK K)
              | (apply Exists.intro
                 refine ⟨fun _ => ?_, hK _ ?_⟩
                 first | with_reducible exact after_calls (HC1.out _) | with_reducible exact after_calls (HC2.out _) | with_reducible exact after_calls (HE1.out _) | with_reducible exact after_calls (HE2.out _)
                 clear hK K)
          refine wq_nil ?_
          intro _ hw'
          obtain ⟨⟨w1, hb1⟩, hw'⟩ := hw'
          subst hw'
          go_wp2_with fail
          go_ret
          exact ⟨ret_bool (by rw [HF.out]; simp; omega), B.trans (hb1.mono B.size)⟩

/-! The reference: byte by byte. -/
def hasR (r : Reg) (z : Int) : Bool := mayR r && (decide (r.base.1 ≤ z) && decide (z - r.base.1 < r.size.1))
theorem refrhas_calls (w : World) (r : Reg) (z : Int) (hz : 0 ≤ z ∧ z ≤ 10000) : Calls Try.prog 133 #[.agg #[.int .i64 r.base.1, .int .i64 r.size.1], .int .i64 z] w fun e w' => e = .returned (.bool (hasR r z)) ∧ Below w.heap.size w w' := by
  obtain ⟨R, HR⟩ : ∃ R, Hid (R = hasR r z) := ⟨_, rfl⟩
  obtain ⟨m, hm⟩ : ∃ m, m = mayR r := ⟨_, rfl⟩
  have HC := Lib.hid (refrmay_calls (w.alloc (.cells #[.int .i64 r.base.1, .int .i64 r.size.1] 40)) r)
  have HB := Lib.hid (box2 w (.int .i64 r.base.1) (.int .i64 r.size.1) 40)
  have B := Lib.hid ((Below.refl _ w).alloc (Nat.le_refl _) (.cells #[.int .i64 r.base.1, .int .i64 r.size.1] 40))
  have HS := Lib.hid (fun h => mayR_spec (r := r) h)
  rw [← HR.out]
  rw [← hm] at HC HS
  have HM := Lib.hid hm
  clear hm
  go_enter Try.func133, Try.ntmps133
  go_wp2_with fail
  refine (HC.out).mono ?_
  rintro e w' ⟨rfl, hb⟩
  have c0 := keep hb HB.out.1
  have c1 := keep hb HB.out.2
  have B2 := Lib.hid (B.out.trans (hb.mono B.out.size))
  clear hb
  cases m with
  | false =>
    go_wp2_with fail
    go_ret
    exact ⟨ret_bool (by rw [HR.out, hasR, ← HM.out]; rfl), B2.out⟩
  | true =>
    have hs := HS.out rfl
    go_wp2_with fail
    all_goals
      go_ret
      refine ⟨ret_bool ?_, B2.out⟩
      rw [HR.out, hasR, ← HM.out]
      simp
      try omega

/-- Below a place nothing of b is met, in steps of 4. -/
def clearTo (a b : Reg) (k : Nat) : Bool := (List.range k).all fun i => !hasR b (a.base.1 + 4 * i)
def rapartR (a b : Reg) : Bool := mayR a && mayR b && clearTo a b ((a.size.1 / 4).toNat)
theorem clearTo_succ (a b : Reg) (k : Nat) : clearTo a b (k + 1) = (clearTo a b k && !hasR b (a.base.1 + 4 * k)) := by
  unfold clearTo; rw [List.range_succ, List.all_append]; simp
theorem clearTo_mono (a b : Reg) (k n : Nat) (h : k ≤ n) (hk : clearTo a b k = false) : clearTo a b n = false := by
  obtain ⟨d, rfl⟩ : ∃ d, n = k + d := ⟨n - k, by omega⟩
  induction d with
  | zero => exact hk
  | succ d ih => rw [← Nat.add_assoc, clearTo_succ, ih (by omega), Bool.false_and]
theorem rapartR_eq (a b : Reg) : rapartR a b = apartR a b := by
  unfold rapartR apartR
  cases hm : mayR a <;> cases hn : mayR b <;> simp only [Bool.false_and, Bool.true_and, Bool.and_false]
  have h1 := mayR_spec hm
  have h2 := mayR_spec hn
  rw [endR, endR, hm, hn, if_pos rfl, if_pos rfl, Bool.eq_iff_iff, Bool.or_eq_true, decide_eq_true_iff, decide_eq_true_iff]
  unfold clearTo
  rw [List.all_eq_true]
  constructor
  · intro h
    by_cases hlo : b.base.1 < a.base.1 + a.size.1
    · by_cases hhi : a.base.1 < b.base.1 + b.size.1
      · exfalso
        by_cases hab : a.base.1 ≤ b.base.1
        · have := h ((b.base.1 - a.base.1) / 4).toNat (List.mem_range.2 (by omega))
          simp [hasR, hn] at this
          have e : a.base.1 + 4 * max ((b.base.1 - a.base.1) / 4) 0 = b.base.1 := by omega
          rw [e] at this
          omega
        · have := h 0 (List.mem_range.2 (by omega))
          simp [hasR, hn] at this
          omega
      · omega
    · omega
  · intro h i hi
    have := List.mem_range.1 hi
    simp [hasR, hn]
    omega

set_option maxRecDepth 100000 in
set_option maxHeartbeats 1000000 in
theorem refrapart_calls (w : World) (r s : Reg) : Calls Try.prog 62 #[.agg #[.int .i64 r.base.1, .int .i64 r.size.1], .agg #[.int .i64 s.base.1, .int .i64 s.size.1]] w fun e w' => e = .returned (.bool (apartR r s)) ∧ Below w.heap.size w w' := by
  rw [← rapartR_eq]
  obtain ⟨R, HR⟩ : ∃ R, Hid (R = rapartR r s) := ⟨_, rfl⟩
  obtain ⟨m, hm⟩ : ∃ m, Hid (m = mayR r) := ⟨_, rfl⟩
  obtain ⟨n, hn⟩ : ∃ n, Hid (n = mayR s) := ⟨_, rfl⟩
  have HC1 := Lib.hid (fun w => refrmay_calls w r)
  have HC2 := Lib.hid (fun w => refrmay_calls w s)
  rw [← hm.out] at HC1
  rw [← hn.out] at HC2
  rw [← HR.out]
  obtain ⟨w0, hw0⟩ : ∃ w0, w0 = (w.alloc (.cells #[.int .i64 r.base.1, .int .i64 r.size.1] 40)).alloc (.cells #[.int .i64 s.base.1, .int .i64 s.size.1] 40) := ⟨_, rfl⟩
  have B : Below w.heap.size w w0 := by rw [hw0]; exact ((Below.refl _ w).alloc (Nat.le_refl _) _).alloc (by simp) _
  have c1 := box2 w (.int .i64 r.base.1) (.int .i64 r.size.1) 40
  have c2 := box2 (w.alloc (.cells #[.int .i64 r.base.1, .int .i64 r.size.1] 40)) (.int .i64 s.base.1) (.int .i64 s.size.1) 40
  rw [← hw0] at c2
  simp only [World.size_alloc] at c2
  have c1a : w0.cell? ⟨w.heap.size, 0, none⟩ = some (.int .i64 r.base.1) := by rw [hw0]; exact keepA _ c1.1
  have c1b : w0.cell? ⟨w.heap.size, 1, none⟩ = some (.int .i64 r.size.1) := by rw [hw0]; exact keepA _ c1.2
  obtain ⟨c2a, c2b⟩ := c2
  have BB := Lib.hid B
  clear c1 B
  go_enter Try.func62, Try.ntmps62
  go_wp2_with fail
  rw [← hw0]
  clear hw0
  refine (HC1.out _).mono ?_
  rintro e w1 ⟨rfl, hb1⟩
  have c1a := keep hb1 c1a
  have c1b := keep hb1 c1b
  have c2a := keep hb1 c2a
  have c2b := keep hb1 c2b
  have BB := Lib.hid (BB.out.trans (hb1.mono BB.out.size))
  clear hb1
  cases m with
  | false =>
    go_wp2_with fail
    go_ret
    exact ⟨ret_bool (by rw [HR.out, rapartR, ← hm.out]; rfl), BB.out⟩
  | true =>
    go_wp2_with fail
    refine (HC2.out _).mono ?_
    rintro e w1 ⟨rfl, hb1⟩
    have c1a := keep hb1 c1a
    have c1b := keep hb1 c1b
    have c2a := keep hb1 c2a
    have c2b := keep hb1 c2b
    have BB := Lib.hid (BB.out.trans (hb1.mono BB.out.size))
    clear hb1
    cases n with
    | false =>
      go_wp2_with fail
      go_ret
      exact ⟨ret_bool (by rw [HR.out, rapartR, ← hm.out, ← hn.out]; rfl), BB.out⟩
    | true =>
      have hs := mayR_spec hm.out.symm
      obtain ⟨N, hN⟩ : ∃ N : Nat, r.size.1 = 4 * (N : Int) := ⟨(r.size.1 / 4).toNat, by omega⟩
      have HRN : Hid (R = clearTo r s N) := by
        rw [Hid, HR.out, rapartR, ← hm.out, ← hn.out, hN]
        simp
      obtain ⟨x, hx⟩ : ∃ x : Int, x = r.base.1 := ⟨_, rfl⟩
      obtain ⟨y, hy⟩ : ∃ y : Int, y = r.size.1 := ⟨_, rfl⟩
      rw [← hx, ← hy] at hs
      rw [← hx] at c1a
      rw [← hy] at c1b hN
      have HX := Lib.hid hx
      clear HC1 HR hx hy
      go_wp2_with fail
      go_loopw [5] (fun i wr => ∃ (k : Nat) (z : Int), Hid (clearTo r s k = true) ∧ k ≤ N ∧ Hid (z = x + 4 * k) ∧ i = .int .i64 z ∧ Below w1.heap.size w1 wr) (fun i _ => N - ((intOf i - x) / 4).toNat)
      case atStart => exact ⟨0, x, rfl, by omega, by rw [Hid]; omega, rfl, Below.refl _ _⟩
      case round =>
        obtain ⟨k, z, hcl, hk, hz, rfl, B⟩ := hrel
        have c1a := keep B c1a
        have c1b := keep B c1b
        have c2a := keep B c2a
        have c2b := keep B c2b
        have BB2 := Lib.hid (BB.out.trans (B.mono BB.out.size))
        by_cases hlt : k < N
        · have hz1 : z < x + 4 * (N : Int) := by have := hz.out; omega
          have hz2 : 0 ≤ z := by have := hz.out; omega
          have HH := Lib.hid (refrhas_calls wr s z (by have := hz.out; omega))
          have HCS : Hid (clearTo r s (k + 1) = !hasR s z) := by rw [Hid, clearTo_succ, hcl.out, Bool.true_and, hz.out, HX.out]
          cases hq : hasR s z with
          | true =>
            rw [hq] at HH HCS
            go_wp2_with fail
            refine (HH.out).mono ?_
            rintro e w2 ⟨rfl, hb2⟩
            go_wp2_with fail
            go_ret
            refine ⟨ret_bool ?_, BB2.out.trans (hb2.mono BB2.out.size)⟩
            rw [HRN.out, clearTo_mono r s (k + 1) N (by omega) HCS.out]
          | false =>
            rw [hq] at HH HCS
            go_wp2_with fail
            refine (HH.out).mono ?_
            rintro e w2 ⟨rfl, hb2⟩
            go_wp2_with fail
            go_roundw
            case rel => exact ⟨k + 1, z + 4, HCS.out, by omega, by rw [Hid, hz.out]; omega, by go_num, B.trans (hb2.mono B.size)⟩
            case measure => have := hz.out; simp [intOf]; omega
        · have hk2 : k = N := by omega
          have hz2 := hz.out
          rw [hk2] at hz2 hcl
          have hz3 : ¬ z < x + 4 * (N : Int) := by omega
          clear hz2
          go_wp2_with fail
          go_ret
          exact ⟨ret_bool (by rw [HRN.out, hcl.out]), BB2.out⟩
end Go.Proofs.Ytpnbaapjjchlbaa

/- channel.part, May, All; the reference's in, May, All: walked. -/
namespace Go.Proofs.Ytpnbaapjjchlbaa
open Go Go.RowKit Go.Cit

def partB (n : Int) : Bool := decide (1 ≤ n ∧ n ≤ 6)
theorem part_calls (w : World) (n : Int) : Calls Try.prog 135 #[.int .i64 n] w fun e w' => e = .returned (.bool (partB n)) ∧ w' = w := by
  obtain ⟨R, HR⟩ : ∃ R, Hid (R = partB n) := ⟨_, rfl⟩
  rw [← HR.out]
  go_enter Try.func135, Try.ntmps135
  go_wp2_with fail
  all_goals
    go_ret
    refine ⟨ret_bool ?_, rfl⟩
    rw [HR.out, partB]
    first | (refine (decide_eq_false ?_).symm; omega) | (refine (decide_eq_true ?_).symm; omega) | (refine decide_eq_decide.2 ?_; omega) | (rw [Bool.eq_iff_iff]; simp only [Bool.and_eq_true, bne_iff_ne, ne_eq, decide_eq_true_eq]; omega)
theorem in_calls (w : World) (n a b : Int) : Calls Try.prog 169 #[.int .i64 n, .int .i64 a, .int .i64 b] w fun e w' => e = .returned (.bool (decide (a ≤ n ∧ n ≤ b))) ∧ w' = w := by
  obtain ⟨R, HR⟩ : ∃ R, Hid (R = decide (a ≤ n ∧ n ≤ b)) := ⟨_, rfl⟩
  rw [← HR.out]
  go_enter Try.func169, Try.ntmps169
  go_wp2_with fail
  all_goals
    go_ret
    refine ⟨ret_bool ?_, rfl⟩
    rw [HR.out]
    first | (refine (decide_eq_false ?_).symm; omega) | (refine (decide_eq_true ?_).symm; omega) | (refine decide_eq_decide.2 ?_; omega) | (rw [Bool.eq_iff_iff]; simp only [Bool.and_eq_true, bne_iff_ne, ne_eq, decide_eq_true_eq]; omega)

def mayC (c : Ch) : Bool := decide (1 ≤ c.id.1 ∧ c.id.1 ≤ 8 ∧ 1 ≤ c.src.1 ∧ c.src.1 ≤ 6 ∧ 1 ≤ c.dst.1 ∧ c.dst.1 ≤ 6 ∧ c.src.1 ≠ c.dst.1 ∧ 1 ≤ c.cap.1 ∧ c.cap.1 ≤ 4 ∧ 1 ≤ c.size.1 ∧ c.size.1 ≤ 16)
set_option maxRecDepth 100000 in
set_option maxHeartbeats 1000000 in
theorem chmay_calls (w : World) (c : Ch) : Calls Try.prog 65 #[.agg #[.int .i64 c.id.1, .int .i64 c.src.1, .int .i64 c.dst.1, .int .i64 c.cap.1, .int .i64 c.size.1]] w fun e w' => e = .returned (.bool (mayC c)) ∧ Below w.heap.size w w' := by
  obtain ⟨R, HR⟩ : ∃ R, Hid (R = mayC c) := ⟨_, rfl⟩
  rw [← HR.out]
  obtain ⟨⟨x1, _⟩, ⟨x2, _⟩, ⟨x3, _⟩, ⟨x4, _⟩, ⟨x5, _⟩⟩ := c
  have B : Hid (∀ C, Below w.heap.size w (w.alloc (.cells C 54))) := fun C => (Below.refl _ w).alloc (Nat.le_refl _) _
  go_enter Try.func65, Try.ntmps65
  go_wp2_with (go_at_call 135; refine (part_calls _ _).mono ?_; rintro e w' ⟨rfl, rfl⟩)
  all_goals
    go_ret
    refine ⟨ret_bool ?_, B.out _⟩
    rw [HR.out, mayC]
    simp only [partB, decide_eq_true_eq, decide_eq_false_iff_not] at *
    first | (refine (decide_eq_false ?_).symm; omega) | (refine (decide_eq_true ?_).symm; omega) | (refine decide_eq_decide.2 ?_; omega) | (rw [Bool.eq_iff_iff]; simp only [Bool.and_eq_true, bne_iff_ne, ne_eq, decide_eq_true_eq]; omega)
set_option maxRecDepth 100000 in
set_option maxHeartbeats 1000000 in
theorem refchmay_calls (w : World) (c : Ch) : Calls Try.prog 134 #[.agg #[.int .i64 c.id.1, .int .i64 c.src.1, .int .i64 c.dst.1, .int .i64 c.cap.1, .int .i64 c.size.1]] w fun e w' => e = .returned (.bool (mayC c)) ∧ Below w.heap.size w w' := by
  obtain ⟨R, HR⟩ : ∃ R, Hid (R = mayC c) := ⟨_, rfl⟩
  rw [← HR.out]
  obtain ⟨⟨x1, _⟩, ⟨x2, _⟩, ⟨x3, _⟩, ⟨x4, _⟩, ⟨x5, _⟩⟩ := c
  have B : Hid (∀ C, Below w.heap.size w (w.alloc (.cells C 54))) := fun C => (Below.refl _ w).alloc (Nat.le_refl _) _
  go_enter Try.func134, Try.ntmps134
  go_wp2_with (go_at_call 169; refine (in_calls _ _ _ _).mono ?_; rintro e w' ⟨rfl, rfl⟩)
  all_goals
    go_ret
    refine ⟨ret_bool ?_, B.out _⟩
    rw [HR.out, mayC]
    try simp only [decide_eq_true_eq, decide_eq_false_iff_not] at *
    first | (refine (decide_eq_false ?_).symm; omega) | (refine (decide_eq_true ?_).symm; omega) | (refine decide_eq_decide.2 ?_; omega) | (rw [Bool.eq_iff_iff]; simp only [Bool.and_eq_true, bne_iff_ne, ne_eq, decide_eq_true_eq]; omega)

/-- The cells of a channel in a list, in whatever world has grown out of w. -/
theorem chs_cells {w w' : World} {a : Option Addr} {l : List Ch} {c : Nat} (h : Vec cCh 5 w a l c) (hb : Below w.heap.size w w') (k : Nat) (hk : k < l.length) :
    w'.cell? (ad a (k * 5)) = some (.int .i64 l[k].id.1) ∧ w'.cell? ⟨(ad a (k * 5)).block, (ad a (k * 5)).off + 1, none⟩ = some (.int .i64 l[k].src.1) ∧ w'.cell? ⟨(ad a (k * 5)).block, (ad a (k * 5)).off + 2, none⟩ = some (.int .i64 l[k].dst.1) ∧
    w'.cell? ⟨(ad a (k * 5)).block, (ad a (k * 5)).off + 3, none⟩ = some (.int .i64 l[k].cap.1) ∧ w'.cell? ⟨(ad a (k * 5)).block, (ad a (k * 5)).off + 4, none⟩ = some (.int .i64 l[k].size.1) := by
  have h := h.stay cCh_len hb
  exact ⟨h.field0 k hk (by decide) rfl, h.field k hk 1 (by decide) rfl, h.field k hk 2 (by decide) rfl, h.field k hk 3 (by decide) rfl, h.field k hk 4 (by decide) rfl⟩

def idAt (l : List Ch) (i : Nat) : Int := (l[i]?.map (·.id.1)).getD 0
def ascTo (l : List Ch) (k : Nat) : Bool := (List.range k).all fun i => decide (idAt l i < idAt l (i + 1))
theorem ascTo_succ (l : List Ch) (k : Nat) : ascTo l (k + 1) = (ascTo l k && decide (idAt l k < idAt l (k + 1))) := by
  unfold ascTo; rw [List.range_succ, List.all_append]; simp
theorem ascTo_mono (l : List Ch) (k n : Nat) (h : k ≤ n) (hk : ascTo l k = false) : ascTo l n = false := by
  obtain ⟨d, rfl⟩ : ∃ d, n = k + d := ⟨n - k, by omega⟩
  induction d with
  | zero => exact hk
  | succ d ih => rw [← Nat.add_assoc, ascTo_succ, ih (by omega), Bool.false_and]
def chErr (l : List Ch) : Int := if l.all mayC then (if ascTo l (l.length - 1) then 0 else 100) else 2
theorem all_take {α : Type} (p : α → Bool) (l : List α) (k : Nat) (h : k < l.length) : (l.take (k + 1)).all p = ((l.take k).all p && p l[k]) := by
  rw [List.take_succ_eq_append_getElem h, List.all_append]; simp
theorem all_not {α : Type} (p : α → Bool) (l : List α) (k : Nat) (h : k < l.length) (hp : p l[k] = false) : l.all p = false := by
  rw [List.all_eq_false]; exact ⟨l[k], List.getElem_mem h, by simp [hp]⟩

set_option maxRecDepth 100000 in
set_option maxHeartbeats 2000000 in
theorem chall_calls (w : World) (a : Option Addr) (l : List Ch) (c : Nat) (h : Vec cCh 5 w a l c) : Calls Try.prog 29 #[.slice a l.length c] w fun e w' => e = .returned (.int .i64 (chErr l)) ∧ Below w.heap.size w w' := by
  obtain ⟨R, HR⟩ : ∃ R, Hid (R = chErr l) := ⟨_, rfl⟩
  rw [← HR.out]
  have hlen := h.len_le
  have HH := Lib.hid h
  clear h
  go_enter Try.func29, Try.ntmps29
  go_wp2_with fail
  go_loopw [8] (fun i wr => ∃ (k : Nat), Hid ((l.take k).all mayC = true) ∧ k ≤ l.length ∧ i = .int .i64 k ∧ Below w.heap.size w wr) (fun i _ => l.length - (intOf i).toNat)
  case atStart => exact ⟨0, rfl, by omega, rfl, Below.refl _ _⟩
  case round =>
    obtain ⟨k, ha, hk, rfl, B⟩ := hrel
    by_cases hlt : k < l.length
    · have i0 := HH.out.index etC k hlt
      obtain ⟨d0, d1, d2, d3, d4⟩ := chs_cells HH.out B k hlt
      cases hq : mayC l[k] with
      | true =>
        have HA : Hid ((l.take (k + 1)).all mayC = true) := by rw [Hid, all_take _ _ _ hlt, ha.out, hq]; rfl
        have HC := Lib.hid (fun w => chmay_calls w l[k])
        rw [hq] at HC
        have HB := Lib.hid B
        clear hq B
        go_wp2_with (go_at_call 65; refine (HC.out _).mono ?_; rintro e w2 ⟨rfl, hb2⟩)
        go_roundw
        case rel => exact ⟨k + 1, HA.out, by omega, by go_num, HB.out.trans (((Below.refl _ wr).alloc (Nat.le_refl _) _).trans (hb2.mono (by simp)) |>.mono HB.out.size)⟩
        case measure => simp [intOf]; omega
      | false =>
        have HC := Lib.hid (fun w => chmay_calls w l[k])
        rw [hq] at HC
        have HF : Hid (R = 2) := by rw [Hid, HR.out, chErr, all_not _ _ _ hlt hq]; rfl
        have HB := Lib.hid B
        clear hq B
        go_wp2_with (go_at_call 65; refine (HC.out _).mono ?_; rintro e w2 ⟨rfl, hb2⟩)
        go_ret
        exact ⟨ret_int HF.out.symm, HB.out.trans (((Below.refl _ wr).alloc (Nat.le_refl _) _).trans (hb2.mono (by simp)) |>.mono HB.out.size)⟩
    · have hk2 : k = l.length := by omega
      have HA : Hid (l.all mayC = true) := by have := ha.out; rw [hk2, List.take_length] at this; exact this
      have hnl : ¬ (k : Int) < (l.length : Int) := by omega
      clear ha hk2
      go_wp2_with fail
      go_loopw [5] (fun i wx => ∃ (m : Nat), Hid (ascTo l m = true) ∧ (m + 1 ≤ l.length ∨ m = 0) ∧ i = .int .i64 ((m : Int) + 1) ∧ Below w.heap.size w wx) (fun i _ => l.length - (intOf i).toNat)
      case atStart => exact ⟨0, rfl, .inr rfl, rfl, B⟩
      case round =>
        obtain ⟨m, hm, hml, rfl, B2⟩ := hrel
        by_cases hlt2 : m + 1 < l.length
        · have i0 := HH.out.index etC m (by omega)
          have i1 := HH.out.index etC (m + 1) hlt2
          rw [show ((m + 1 : Nat) : Int) = (m : Int) + 1 from rfl] at i1
          have c0 : ∀ q : After wr, q.to.cell? (ad a (m * 5)) = some (.int .i64 l[m].id.1) := fun q => (chs_cells HH.out (B2.trans (q.bel.mono B2.size)) m (by omega)).1
          have c1 : ∀ q : After wr, q.to.cell? (ad a ((m + 1) * 5)) = some (.int .i64 l[m + 1].id.1) := fun q => (chs_cells HH.out (B2.trans (q.bel.mono B2.size)) (m + 1) hlt2).1
          have hwm : IntKind.i64.wrap (m : Int) = (m : Int) := IntWalk.i64_in _ (by omega)
          have HI : Hid (idAt l m = l[m].id.1 ∧ idAt l (m + 1) = l[m + 1].id.1) := by
            constructor
            · simp [idAt, show m < l.length by omega]
            · simp [idAt, hlt2]
          by_cases hc : l[m].id.1 < l[m + 1].id.1
          · have HS : Hid (ascTo l (m + 1) = true) := by rw [Hid, ascTo_succ, hm.out, HI.out.1, HI.out.2, decide_eq_true hc]; rfl
            have hlti : (m : Int) + 1 < (l.length : Int) := by omega
            go_wp2_with fail
            refine wp_region_after (by kernel_rfl) (by kernel_rfl) ?_
            iterate 12
              refine wq_step (fun K hK => ?_)
              go_simp
              refine hK _ ?_
              clear hK K
            refine wq_nil ?_
            intro _ hw'
            obtain ⟨⟨w3, hb3⟩, hw'⟩ := hw'
            subst hw'
            go_wp2_with fail
            go_roundw
            case rel => exact ⟨m + 1, HS.out, by omega, by go_num, B2.trans (hb3.mono B2.size)⟩
            case measure => simp [intOf]; omega
          · have HS : Hid (ascTo l (m + 1) = false) := by rw [Hid, ascTo_succ, hm.out, HI.out.1, HI.out.2, decide_eq_false hc]; rfl
            have HF : Hid (R = 100) := by rw [Hid, HR.out, chErr, HA.out, ascTo_mono l (m + 1) _ (by omega) HS.out]; rfl
            have hlti : (m : Int) + 1 < (l.length : Int) := by omega
            go_wp2_with fail
            refine wp_region_after (by kernel_rfl) (by kernel_rfl) ?_
            iterate 12
              refine wq_step (fun K hK => ?_)
              go_simp
              refine hK _ ?_
              clear hK K
            refine wq_nil ?_
            intro _ hw'
            obtain ⟨⟨w3, hb3⟩, hw'⟩ := hw'
            subst hw'
            go_wp2_with fail
            go_ret
            exact ⟨ret_int HF.out.symm, B2.trans (hb3.mono B2.size)⟩
        · have HF : Hid (R = 0) := by
            rw [Hid, HR.out, chErr, HA.out, if_pos rfl]
            rcases hml with h1 | h1
            · rw [show l.length - 1 = m by omega, hm.out]; rfl
            · subst h1; rw [show l.length - 1 = 0 by omega]; rfl
          have hlti : ¬ (m : Int) + 1 < (l.length : Int) := by omega
          go_wp2_with fail
          go_ret
          exact ⟨ret_int HF.out.symm, B2⟩
set_option maxRecDepth 100000 in
set_option maxHeartbeats 2000000 in
theorem refchall_calls (w : World) (a : Option Addr) (l : List Ch) (c : Nat) (h : Vec cCh 5 w a l c) : Calls Try.prog 63 #[.slice a l.length c] w fun e w' => e = .returned (.int .i64 (chErr l)) ∧ Below w.heap.size w w' := by
  obtain ⟨R, HR⟩ : ∃ R, Hid (R = chErr l) := ⟨_, rfl⟩
  rw [← HR.out]
  have hlen := h.len_le
  have HH := Lib.hid h
  clear h
  go_enter Try.func63, Try.ntmps63
  go_wp2_with fail
  go_loopw [3] (fun i wr => ∃ (k : Nat), Hid ((l.take k).all mayC = true) ∧ k ≤ l.length ∧ i = .int .i64 k ∧ Below w.heap.size w wr) (fun i _ => l.length - (intOf i).toNat)
  case atStart => exact ⟨0, rfl, by omega, rfl, Below.refl _ _⟩
  case round =>
    obtain ⟨k, ha, hk, rfl, B⟩ := hrel
    by_cases hlt : k < l.length
    · have i0 := HH.out.index etC k hlt
      obtain ⟨d0, d1, d2, d3, d4⟩ := chs_cells HH.out B k hlt
      cases hq : mayC l[k] with
      | true =>
        have HA : Hid ((l.take (k + 1)).all mayC = true) := by rw [Hid, all_take _ _ _ hlt, ha.out, hq]; rfl
        have HC := Lib.hid (fun w => refchmay_calls w l[k])
        rw [hq] at HC
        have HB := Lib.hid B
        clear hq B
        go_wp2_with (go_at_call 134; refine (HC.out _).mono ?_; rintro e w2 ⟨rfl, hb2⟩)
        go_roundw
        case rel => exact ⟨k + 1, HA.out, by omega, by go_num, HB.out.trans (hb2.mono HB.out.size)⟩
        case measure => simp [intOf]; omega
      | false =>
        have HC := Lib.hid (fun w => refchmay_calls w l[k])
        rw [hq] at HC
        have HF : Hid (R = 2) := by rw [Hid, HR.out, chErr, all_not _ _ _ hlt hq]; rfl
        have HB := Lib.hid B
        clear hq B
        go_wp2_with (go_at_call 134; refine (HC.out _).mono ?_; rintro e w2 ⟨rfl, hb2⟩)
        go_ret
        exact ⟨ret_int HF.out.symm, HB.out.trans (hb2.mono HB.out.size)⟩
    · have hk2 : k = l.length := by omega
      have HA : Hid (l.all mayC = true) := by have := ha.out; rw [hk2, List.take_length] at this; exact this
      have hnl : ¬ (k : Int) < (l.length : Int) := by omega
      clear ha hk2
      go_wp2_with fail
      go_loopw [4] (fun i wx => ∃ (m : Nat), Hid (ascTo l m = true) ∧ (m + 1 ≤ l.length ∨ m = 0) ∧ i = .int .i64 ((m : Int) + 1) ∧ Below w.heap.size w wx) (fun i _ => l.length - (intOf i).toNat)
      case atStart => exact ⟨0, rfl, .inr rfl, rfl, B⟩
      case round =>
        obtain ⟨m, hm, hml, rfl, B2⟩ := hrel
        by_cases hlt2 : m + 1 < l.length
        · have i0 := HH.out.index etC m (by omega)
          have i1 := HH.out.index etC (m + 1) hlt2
          rw [show ((m + 1 : Nat) : Int) = (m : Int) + 1 from rfl] at i1
          have c0 : ∀ q : After wr, q.to.cell? (ad a (m * 5)) = some (.int .i64 l[m].id.1) := fun q => (chs_cells HH.out (B2.trans (q.bel.mono B2.size)) m (by omega)).1
          have c1 : ∀ q : After wr, q.to.cell? (ad a ((m + 1) * 5)) = some (.int .i64 l[m + 1].id.1) := fun q => (chs_cells HH.out (B2.trans (q.bel.mono B2.size)) (m + 1) hlt2).1
          have hwm : IntKind.i64.wrap (m : Int) = (m : Int) := IntWalk.i64_in _ (by omega)
          have HI : Hid (idAt l m = l[m].id.1 ∧ idAt l (m + 1) = l[m + 1].id.1) := by
            constructor
            · simp [idAt, show m < l.length by omega]
            · simp [idAt, hlt2]
          by_cases hc : l[m].id.1 < l[m + 1].id.1
          · have HS : Hid (ascTo l (m + 1) = true) := by rw [Hid, ascTo_succ, hm.out, HI.out.1, HI.out.2, decide_eq_true hc]; rfl
            have hlti : (m : Int) + 1 < (l.length : Int) := by omega
            go_wp2_with fail
            refine wp_region_after (by kernel_rfl) (by kernel_rfl) ?_
            iterate 12
              refine wq_step (fun K hK => ?_)
              go_simp
              refine hK _ ?_
              clear hK K
            refine wq_nil ?_
            intro _ hw'
            obtain ⟨⟨w3, hb3⟩, hw'⟩ := hw'
            subst hw'
            go_wp2_with fail
            go_roundw
            case rel => exact ⟨m + 1, HS.out, by omega, by go_num, B2.trans (hb3.mono B2.size)⟩
            case measure => simp [intOf]; omega
          · have HS : Hid (ascTo l (m + 1) = false) := by rw [Hid, ascTo_succ, hm.out, HI.out.1, HI.out.2, decide_eq_false hc]; rfl
            have HF : Hid (R = 100) := by rw [Hid, HR.out, chErr, HA.out, ascTo_mono l (m + 1) _ (by omega) HS.out]; rfl
            have hlti : (m : Int) + 1 < (l.length : Int) := by omega
            go_wp2_with fail
            refine wp_region_after (by kernel_rfl) (by kernel_rfl) ?_
            iterate 12
              refine wq_step (fun K hK => ?_)
              go_simp
              refine hK _ ?_
              clear hK K
            refine wq_nil ?_
            intro _ hw'
            obtain ⟨⟨w3, hb3⟩, hw'⟩ := hw'
            subst hw'
            go_wp2_with fail
            go_ret
            exact ⟨ret_int HF.out.symm, B2.trans (hb3.mono B2.size)⟩
        · have HF : Hid (R = 0) := by
            rw [Hid, HR.out, chErr, HA.out, if_pos rfl]
            rcases hml with h1 | h1
            · rw [show l.length - 1 = m by omega, hm.out]; rfl
            · subst h1; rw [show l.length - 1 = 0 by omega]; rfl
          have hlti : ¬ (m : Int) + 1 < (l.length : Int) := by omega
          go_wp2_with fail
          go_ret
          exact ⟨ret_int HF.out.symm, B2⟩
end Go.Proofs.Ytpnbaapjjchlbaa

/- slices.IndexFunc, slices.ContainsFunc at windows, partitions, channels: walked (printed by genfind.py). -/
namespace Go.Proofs.Ytpnbaapjjchlbaa
open Go Go.RowKit Go.Cit

/-- The place of the first one of which p holds; -1. -/
def findI {α : Type} (p : α → Bool) (l : List α) : Int := match l.findIdx? p with | some i => (i : Int) | none => -1
theorem findI_hit {α : Type} (p : α → Bool) (l : List α) (k : Nat) (h : k < l.length) (hn : ∀ j (hj : j < l.length), j < k → p l[j] = false) (hp : p l[k] = true) : findI p l = k := by
  have : l.findIdx? p = some k := by
    rw [List.findIdx?_eq_some_iff_getElem]
    exact ⟨h, hp, fun j hj => by rw [hn j (by omega) hj]; decide⟩
  rw [findI, this]
theorem findI_none {α : Type} (p : α → Bool) (l : List α) (hn : ∀ j (hj : j < l.length), p l[j] = false) : findI p l = -1 := by
  have : l.findIdx? p = none := by
    rw [List.findIdx?_eq_none_iff]
    intro x hx
    obtain ⟨i, hi, rfl⟩ := List.mem_iff_getElem.1 hx
    exact hn i hi
  rw [findI, this]
theorem findI_any {α : Type} (p : α → Bool) (l : List α) : decide (0 ≤ findI p l) = l.any p := by
  cases h : l.findIdx? p with
  | none =>
    simp only [findI, h]
    rw [List.findIdx?_eq_none_iff] at h
    have : l.any p = false := by rw [List.any_eq_false]; intro x hx; rw [h x hx]; decide
    rw [this]; rfl
  | some i =>
    rw [findI, h]
    rw [List.findIdx?_eq_some_iff_getElem] at h
    obtain ⟨hi, hp, _⟩ := h
    have : l.any p = true := List.any_eq_true.2 ⟨l[i], List.getElem_mem hi, hp⟩
    rw [this]; simp
theorem findI_range {α : Type} (p : α → Bool) (l : List α) : findI p l = -1 ∨ ∃ i, ∃ h : i < l.length, findI p l = i ∧ p l[i] = true := by
  cases h : l.findIdx? p with
  | none => left; rw [findI, h]
  | some i =>
    right
    rw [findI, h]
    rw [List.findIdx?_eq_some_iff_getElem] at h
    obtain ⟨hi, hp, _⟩ := h
    exact ⟨i, hi, rfl, hp⟩
theorem win_cells {w w' : World} {a : Option Addr} {l : List Win} {c : Nat} (h : Vec cWin 2 w a l c) (hb : Below w.heap.size w w') (k : Nat) (hk : k < l.length) :
    w'.cell? (ad a (k * 2)) = some (.int .i64 l[k].len.1) ∧ w'.cell? ⟨(ad a (k * 2)).block, (ad a (k * 2)).off + 1, none⟩ = some (.int .i64 l[k].part.1) := by
  have h := h.stay cWin_len hb
  exact ⟨h.field0 k hk (by decide) rfl, h.field k hk 1 (by decide) rfl⟩

set_option maxRecDepth 100000 in
set_option maxHeartbeats 1000000 in
theorem win_index {p : Win → Bool} (g : Nat) (lb : Array Value) (eg : ∀ args w, (callFunc g args).run Try.prog w = .ok (.enter g args) w) (w : World) (a : Option Addr) (l : List Win) (c : Nat) (h : Vec cWin 2 w a l c) (hp : ∀ (W : World) (i : Nat) (hi : i < l.length), Below w.heap.size w W → Calls Try.prog g (#[.agg #[.int .i64 l[i].len.1, .int .i64 l[i].part.1]] ++ lb) W fun e w' => e = .returned (.bool (p l[i])) ∧ Below w.heap.size w w') :
    Calls Try.prog 177 #[.slice a l.length c, .func (.func g) #[] lb] w fun e w' => e = .returned (.int .i64 (findI p l)) ∧ Below w.heap.size w w' := by
  obtain ⟨R, HR⟩ : ∃ R, Hid (R = findI p l) := ⟨_, rfl⟩
  rw [← HR.out]
  have hlen := h.len_le
  have HH := Lib.hid h
  have HP := Lib.hid hp
  clear h hp
  go_enter Try.func177, Try.ntmps177
  go_wp2_with fail
  go_loopw [8] (fun i wr => ∃ (k : Nat), Hid (∀ j (hj : j < l.length), j < k → p l[j] = false) ∧ k ≤ l.length ∧ i = .int .i64 k ∧ Below w.heap.size w wr) (fun i _ => l.length - (intOf i).toNat)
  case atStart => exact ⟨0, fun j hj h => by omega, by omega, rfl, Below.refl _ _⟩
  case round =>
    obtain ⟨k, ha, hk, rfl, B⟩ := hrel
    by_cases hlt : k < l.length
    · have i0 := HH.out.index etW k hlt
      obtain ⟨d0, d1⟩ := win_cells HH.out B k hlt
      have hcall := HP.out wr k hlt B
      cases hq : p l[k] with
      | true =>
        rw [hq] at hcall
        have HF : Hid (R = k) := by rw [Hid, HR.out, findI_hit p l k hlt ha.out hq]
        clear hq
        go_wp2_with fail
        refine (hcall).mono ?_
        rintro e w2 ⟨rfl, hb2⟩
        go_wp2_with fail
        go_ret
        exact ⟨ret_int HF.out.symm, hb2⟩
      | false =>
        rw [hq] at hcall
        have HN : Hid (∀ j (hj : j < l.length), j < k + 1 → p l[j] = false) := fun j hj h => by
          rcases Nat.lt_or_ge j k with h1 | h1
          · exact ha.out j hj h1
          · obtain rfl : j = k := by omega
            exact hq
        clear hq
        go_wp2_with fail
        refine (hcall).mono ?_
        rintro e w2 ⟨rfl, hb2⟩
        go_wp2_with fail
        go_roundw
        case rel => exact ⟨k + 1, HN.out, by omega, by go_num, hb2⟩
        case measure => simp [intOf]; omega
    · have HF : Hid (R = -1) := by rw [Hid, HR.out, findI_none p l (fun j hj => ha.out j hj (by omega))]
      go_wp2_with fail
      go_ret
      exact ⟨ret_int HF.out.symm, B⟩
theorem win_contains {p : Win → Bool} (g : Nat) (lb : Array Value) (eg : ∀ args w, (callFunc g args).run Try.prog w = .ok (.enter g args) w) (w : World) (a : Option Addr) (l : List Win) (c : Nat) (h : Vec cWin 2 w a l c) (hp : ∀ (W : World) (i : Nat) (hi : i < l.length), Below w.heap.size w W → Calls Try.prog g (#[.agg #[.int .i64 l[i].len.1, .int .i64 l[i].part.1]] ++ lb) W fun e w' => e = .returned (.bool (p l[i])) ∧ Below w.heap.size w w') :
    Calls Try.prog 163 #[.slice a l.length c, .func (.func g) #[] lb] w fun e w' => e = .returned (.bool (l.any p)) ∧ Below w.heap.size w w' := by
  have HC := Lib.hid (win_index g lb eg w a l c h hp)
  obtain ⟨R, HR⟩ : ∃ R, Hid (R = findI p l) := ⟨_, rfl⟩
  obtain ⟨S, HS⟩ : ∃ S, Hid (S = l.any p) := ⟨_, rfl⟩
  rw [← HR.out] at HC
  rw [← HS.out]
  clear h hp
  go_enter Try.func163, Try.ntmps163
  go_wp2_with fail
  refine (HC.out).mono ?_
  rintro e w2 ⟨rfl, hb2⟩
  go_wp2_with fail
  go_ret
  exact ⟨ret_bool (by rw [HS.out, ← findI_any p l, ← HR.out]), hb2⟩
theorem pts_cells {w w' : World} {a : Option Addr} {l : List PtV} {c : Nat} (h : Vec cPt 5 w a l c) (hb : Below w.heap.size w w') (k : Nat) (hk : k < l.length) :
    w'.cell? (ad a (k * 5)) = some (.int .i64 l[k].id.1) ∧ w'.cell? ⟨(ad a (k * 5)).block, (ad a (k * 5)).off + 1, none⟩ = some (.int .i64 l[k].reg.base.1) ∧ w'.cell? ⟨(ad a (k * 5)).block, (ad a (k * 5)).off + 2, none⟩ = some (.int .i64 l[k].reg.size.1) ∧ w'.cell? ⟨(ad a (k * 5)).block, (ad a (k * 5)).off + 3, none⟩ = some (.bool l[k].keep) ∧ w'.cell? ⟨(ad a (k * 5)).block, (ad a (k * 5)).off + 4, none⟩ = some (.slice l[k].a l[k].img.length l[k].c) := by
  have h := h.stay cPt_len hb
  exact ⟨h.field0 k hk (by decide) rfl, h.field k hk 1 (by decide) rfl, h.field k hk 2 (by decide) rfl, h.field k hk 3 (by decide) rfl, h.field k hk 4 (by decide) rfl⟩

set_option maxRecDepth 100000 in
set_option maxHeartbeats 1000000 in
theorem pts_index {p : PtV → Bool} (g : Nat) (lb : Array Value) (eg : ∀ args w, (callFunc g args).run Try.prog w = .ok (.enter g args) w) (w : World) (a : Option Addr) (l : List PtV) (c : Nat) (h : Vec cPt 5 w a l c) (hp : ∀ (W : World) (i : Nat) (hi : i < l.length), Below w.heap.size w W → Calls Try.prog g (#[.agg #[.int .i64 l[i].id.1, .int .i64 l[i].reg.base.1, .int .i64 l[i].reg.size.1, .bool l[i].keep, .slice l[i].a l[i].img.length l[i].c]] ++ lb) W fun e w' => e = .returned (.bool (p l[i])) ∧ Below w.heap.size w w') :
    Calls Try.prog 68 #[.slice a l.length c, .func (.func g) #[] lb] w fun e w' => e = .returned (.int .i64 (findI p l)) ∧ Below w.heap.size w w' := by
  obtain ⟨R, HR⟩ : ∃ R, Hid (R = findI p l) := ⟨_, rfl⟩
  rw [← HR.out]
  have hlen := h.len_le
  have HH := Lib.hid h
  have HP := Lib.hid hp
  clear h hp
  go_enter Try.func68, Try.ntmps68
  go_wp2_with fail
  go_loopw [8] (fun i wr => ∃ (k : Nat), Hid (∀ j (hj : j < l.length), j < k → p l[j] = false) ∧ k ≤ l.length ∧ i = .int .i64 k ∧ Below w.heap.size w wr) (fun i _ => l.length - (intOf i).toNat)
  case atStart => exact ⟨0, fun j hj h => by omega, by omega, rfl, Below.refl _ _⟩
  case round =>
    obtain ⟨k, ha, hk, rfl, B⟩ := hrel
    by_cases hlt : k < l.length
    · have i0 := HH.out.index etP k hlt
      obtain ⟨d0, d1, d2, d3, d4⟩ := pts_cells HH.out B k hlt
      have hcall := HP.out wr k hlt B
      cases hq : p l[k] with
      | true =>
        rw [hq] at hcall
        have HF : Hid (R = k) := by rw [Hid, HR.out, findI_hit p l k hlt ha.out hq]
        clear hq
        go_wp2_with fail
        refine (hcall).mono ?_
        rintro e w2 ⟨rfl, hb2⟩
        go_wp2_with fail
        go_ret
        exact ⟨ret_int HF.out.symm, hb2⟩
      | false =>
        rw [hq] at hcall
        have HN : Hid (∀ j (hj : j < l.length), j < k + 1 → p l[j] = false) := fun j hj h => by
          rcases Nat.lt_or_ge j k with h1 | h1
          · exact ha.out j hj h1
          · obtain rfl : j = k := by omega
            exact hq
        clear hq
        go_wp2_with fail
        refine (hcall).mono ?_
        rintro e w2 ⟨rfl, hb2⟩
        go_wp2_with fail
        go_roundw
        case rel => exact ⟨k + 1, HN.out, by omega, by go_num, hb2⟩
        case measure => simp [intOf]; omega
    · have HF : Hid (R = -1) := by rw [Hid, HR.out, findI_none p l (fun j hj => ha.out j hj (by omega))]
      go_wp2_with fail
      go_ret
      exact ⟨ret_int HF.out.symm, B⟩
theorem pts_contains {p : PtV → Bool} (g : Nat) (lb : Array Value) (eg : ∀ args w, (callFunc g args).run Try.prog w = .ok (.enter g args) w) (w : World) (a : Option Addr) (l : List PtV) (c : Nat) (h : Vec cPt 5 w a l c) (hp : ∀ (W : World) (i : Nat) (hi : i < l.length), Below w.heap.size w W → Calls Try.prog g (#[.agg #[.int .i64 l[i].id.1, .int .i64 l[i].reg.base.1, .int .i64 l[i].reg.size.1, .bool l[i].keep, .slice l[i].a l[i].img.length l[i].c]] ++ lb) W fun e w' => e = .returned (.bool (p l[i])) ∧ Below w.heap.size w w') :
    Calls Try.prog 67 #[.slice a l.length c, .func (.func g) #[] lb] w fun e w' => e = .returned (.bool (l.any p)) ∧ Below w.heap.size w w' := by
  have HC := Lib.hid (pts_index g lb eg w a l c h hp)
  obtain ⟨R, HR⟩ : ∃ R, Hid (R = findI p l) := ⟨_, rfl⟩
  obtain ⟨S, HS⟩ : ∃ S, Hid (S = l.any p) := ⟨_, rfl⟩
  rw [← HR.out] at HC
  rw [← HS.out]
  clear h hp
  go_enter Try.func67, Try.ntmps67
  go_wp2_with fail
  refine (HC.out).mono ?_
  rintro e w2 ⟨rfl, hb2⟩
  go_wp2_with fail
  go_ret
  exact ⟨ret_bool (by rw [HS.out, ← findI_any p l, ← HR.out]), hb2⟩

set_option maxRecDepth 100000 in
set_option maxHeartbeats 1000000 in
theorem chs_index {p : Ch → Bool} (g : Nat) (lb : Array Value) (eg : ∀ args w, (callFunc g args).run Try.prog w = .ok (.enter g args) w) (w : World) (a : Option Addr) (l : List Ch) (c : Nat) (h : Vec cCh 5 w a l c) (hp : ∀ (W : World) (i : Nat) (hi : i < l.length), Below w.heap.size w W → Calls Try.prog g (#[.agg #[.int .i64 l[i].id.1, .int .i64 l[i].src.1, .int .i64 l[i].dst.1, .int .i64 l[i].cap.1, .int .i64 l[i].size.1]] ++ lb) W fun e w' => e = .returned (.bool (p l[i])) ∧ Below w.heap.size w w') :
    Calls Try.prog 86 #[.slice a l.length c, .func (.func g) #[] lb] w fun e w' => e = .returned (.int .i64 (findI p l)) ∧ Below w.heap.size w w' := by
  obtain ⟨R, HR⟩ : ∃ R, Hid (R = findI p l) := ⟨_, rfl⟩
  rw [← HR.out]
  have hlen := h.len_le
  have HH := Lib.hid h
  have HP := Lib.hid hp
  clear h hp
  go_enter Try.func86, Try.ntmps86
  go_wp2_with fail
  go_loopw [8] (fun i wr => ∃ (k : Nat), Hid (∀ j (hj : j < l.length), j < k → p l[j] = false) ∧ k ≤ l.length ∧ i = .int .i64 k ∧ Below w.heap.size w wr) (fun i _ => l.length - (intOf i).toNat)
  case atStart => exact ⟨0, fun j hj h => by omega, by omega, rfl, Below.refl _ _⟩
  case round =>
    obtain ⟨k, ha, hk, rfl, B⟩ := hrel
    by_cases hlt : k < l.length
    · have i0 := HH.out.index etC k hlt
      obtain ⟨d0, d1, d2, d3, d4⟩ := chs_cells HH.out B k hlt
      have hcall := HP.out wr k hlt B
      cases hq : p l[k] with
      | true =>
        rw [hq] at hcall
        have HF : Hid (R = k) := by rw [Hid, HR.out, findI_hit p l k hlt ha.out hq]
        clear hq
        go_wp2_with fail
        refine (hcall).mono ?_
        rintro e w2 ⟨rfl, hb2⟩
        go_wp2_with fail
        go_ret
        exact ⟨ret_int HF.out.symm, hb2⟩
      | false =>
        rw [hq] at hcall
        have HN : Hid (∀ j (hj : j < l.length), j < k + 1 → p l[j] = false) := fun j hj h => by
          rcases Nat.lt_or_ge j k with h1 | h1
          · exact ha.out j hj h1
          · obtain rfl : j = k := by omega
            exact hq
        clear hq
        go_wp2_with fail
        refine (hcall).mono ?_
        rintro e w2 ⟨rfl, hb2⟩
        go_wp2_with fail
        go_roundw
        case rel => exact ⟨k + 1, HN.out, by omega, by go_num, hb2⟩
        case measure => simp [intOf]; omega
    · have HF : Hid (R = -1) := by rw [Hid, HR.out, findI_none p l (fun j hj => ha.out j hj (by omega))]
      go_wp2_with fail
      go_ret
      exact ⟨ret_int HF.out.symm, B⟩
theorem chs_contains {p : Ch → Bool} (g : Nat) (lb : Array Value) (eg : ∀ args w, (callFunc g args).run Try.prog w = .ok (.enter g args) w) (w : World) (a : Option Addr) (l : List Ch) (c : Nat) (h : Vec cCh 5 w a l c) (hp : ∀ (W : World) (i : Nat) (hi : i < l.length), Below w.heap.size w W → Calls Try.prog g (#[.agg #[.int .i64 l[i].id.1, .int .i64 l[i].src.1, .int .i64 l[i].dst.1, .int .i64 l[i].cap.1, .int .i64 l[i].size.1]] ++ lb) W fun e w' => e = .returned (.bool (p l[i])) ∧ Below w.heap.size w w') :
    Calls Try.prog 167 #[.slice a l.length c, .func (.func g) #[] lb] w fun e w' => e = .returned (.bool (l.any p)) ∧ Below w.heap.size w w' := by
  have HC := Lib.hid (chs_index g lb eg w a l c h hp)
  obtain ⟨R, HR⟩ : ∃ R, Hid (R = findI p l) := ⟨_, rfl⟩
  obtain ⟨S, HS⟩ : ∃ S, Hid (S = l.any p) := ⟨_, rfl⟩
  rw [← HR.out] at HC
  rw [← HS.out]
  clear h hp
  go_enter Try.func167, Try.ntmps167
  go_wp2_with fail
  refine (HC.out).mono ?_
  rintro e w2 ⟨rfl, hb2⟩
  go_wp2_with fail
  go_ret
  exact ⟨ret_bool (by rw [HS.out, ← findI_any p l, ← HR.out]), hb2⟩
end Go.Proofs.Ytpnbaapjjchlbaa

/- schedule.May, the reference's May: walked. -/
namespace Go.Proofs.Ytpnbaapjjchlbaa
open Go Go.RowKit Go.Cit

def winOk (x : Win) : Bool := decide (1 ≤ x.len.1 ∧ x.len.1 ≤ 64 ∧ 0 ≤ x.part.1 ∧ x.part.1 ≤ 6)
def sumL (l : List Win) : Int := (l.map (·.len.1)).sum
theorem sumL_take (l : List Win) (k : Nat) (h : k < l.length) : sumL (l.take (k + 1)) = sumL (l.take k) + l[k].len.1 := by
  rw [sumL, sumL, List.take_succ_eq_append_getElem h, List.map_append, List.sum_append]; simp
def mayW (l : List Win) : Bool := decide (1 ≤ l.length ∧ l.length ≤ 12) && (l.all winOk && decide (sumL l ≤ 64))
set_option maxRecDepth 100000 in
set_option maxHeartbeats 2000000 in
theorem smay_calls (w : World) (a : Option Addr) (l : List Win) (c : Nat) (h : Vec cWin 2 w a l c) : Calls Try.prog 28 #[.slice a l.length c] w fun e w' => e = .returned (.bool (mayW l)) ∧ Below w.heap.size w w' := by
  obtain ⟨R, HR⟩ : ∃ R, Hid (R = mayW l) := ⟨_, rfl⟩
  rw [← HR.out]
  have hlen := h.len_le
  have HH := Lib.hid h
  clear h
  by_cases h1 : l.length < 1
  · have HF : Hid (R = false) := by rw [Hid, HR.out, mayW, decide_eq_false (by omega)]; rfl
    go_enter Try.func28, Try.ntmps28
    go_wp2_with fail
    go_ret
    exact ⟨ret_bool HF.out.symm, Below.refl _ _⟩
  by_cases h2 : 12 < l.length
  · have HF : Hid (R = false) := by rw [Hid, HR.out, mayW, decide_eq_false (by omega)]; rfl
    go_enter Try.func28, Try.ntmps28
    go_wp2_with fail
    go_ret
    exact ⟨ret_bool HF.out.symm, Below.refl _ _⟩
  have HR : Hid (R = (l.all winOk && decide (sumL l ≤ 64))) := by rw [Hid, HR.out, mayW, decide_eq_true (by omega)]; rfl
  go_enter Try.func28, Try.ntmps28
  go_wp2_with fail
  go_loopw [3, 16] (fun s i wr => ∃ (k : Nat) (m : Int), Hid ((l.take k).all winOk = true) ∧ Hid (m = sumL (l.take k)) ∧ k ≤ l.length ∧ 0 ≤ m ∧ m ≤ 64 * k ∧ s = .int .i64 m ∧ i = .int .i64 k ∧ Below w.heap.size w wr) (fun _ i _ => l.length - (intOf i).toNat)
  case atStart => exact ⟨0, 0, rfl, rfl, by omega, by omega, by omega, rfl, rfl, Below.refl _ _⟩
  case round =>
    obtain ⟨k, m, ha, hm, hk, hm0, hm1, rfl, rfl, B⟩ := hrel
    by_cases hlt : k < l.length
    · have i0 := HH.out.index etW k hlt
      obtain ⟨d0, d1⟩ := win_cells HH.out B k hlt
      have HB : Hid (∀ C, Below w.heap.size w (wr.alloc (.cells C 52))) := fun C => B.alloc B.size _
      obtain ⟨x, hx⟩ : ∃ x, x = l[k].len.1 := ⟨_, rfl⟩
      obtain ⟨y, hy⟩ : ∃ y, y = l[k].part.1 := ⟨_, rfl⟩
      have HW : Hid (winOk l[k] = decide (1 ≤ x ∧ x ≤ 64 ∧ 0 ≤ y ∧ y ≤ 6)) := by rw [hx, hy]; rfl
      have HS : Hid (m + x = sumL (l.take (k + 1))) := by rw [Hid, sumL_take _ _ hlt, hm.out, hx]
      rw [← hx] at d0
      rw [← hy] at d1
      clear hx hy B
      by_cases hq : 1 ≤ x ∧ x ≤ 64 ∧ 0 ≤ y ∧ y ≤ 6
      · obtain ⟨q1, q2, q3, q4⟩ := hq
        have HA : Hid ((l.take (k + 1)).all winOk = true) := by rw [Hid, all_take _ _ _ hlt, ha.out, HW.out, decide_eq_true ⟨q1, q2, q3, q4⟩]; rfl
        go_wp2_with fail
        go_roundw
        case rel => exact ⟨k + 1, m + x, HA.out, HS.out, by omega, by omega, by omega, rfl, by go_num, HB.out _⟩
        case measure => simp [intOf]; omega
      · have HF : Hid (R = false) := by rw [Hid, HR.out, all_not _ _ _ hlt (by rw [HW.out, decide_eq_false hq])]; rfl
        have HQ := Lib.hid hq
        clear hq
        go_wp2_with fail
        all_goals first
          | (go_ret; exact ⟨ret_bool HF.out.symm, HB.out _⟩)
          | (exfalso; have := HQ.out; omega)
    · have hk2 : k = l.length := by omega
      have HA : Hid (l.all winOk = true) := by have := ha.out; rw [hk2, List.take_length] at this; exact this
      have HM : Hid (m = sumL l) := by rw [Hid, hm.out, hk2, List.take_length]
      have HK := Lib.hid hk2
      clear hk2
      go_wp2_with fail
      all_goals
        go_ret
        refine ⟨ret_bool ?_, B⟩
        rw [HR.out, HA.out, ← HM.out, Bool.true_and]
        try simp only [*]

set_option maxRecDepth 100000 in
set_option maxHeartbeats 4000000 in
theorem refsmay_calls (w : World) (a : Option Addr) (l : List Win) (c : Nat) (h : Vec cWin 2 w a l c) : Calls Try.prog 59 #[.slice a l.length c] w fun e w' => e = .returned (.bool (mayW l)) ∧ Below w.heap.size w w' := by
  obtain ⟨R, HR⟩ : ∃ R, Hid (R = mayW l) := ⟨_, rfl⟩
  rw [← HR.out]
  have hlen := h.len_le
  have HH := Lib.hid h
  clear h
  go_enter Try.func59, Try.ntmps59
  go_wp2_with fail
  go_loopw [3, 4] (fun s i wr => ∃ (k : Nat) (m : Int), Hid ((l.take k).all winOk = true) ∧ Hid (m = sumL (l.take k)) ∧ k ≤ l.length ∧ k ≤ 12 ∧ k ≤ m ∧ m ≤ 64 * k ∧ s = .int .i64 m ∧ i = .int .i64 k ∧ wr = w) (fun _ i _ => l.length - (intOf i).toNat)
  case atStart => exact ⟨0, 0, rfl, rfl, by omega, by omega, by omega, by omega, rfl, rfl, rfl⟩
  case round =>
    obtain ⟨k, m, ha, hm, hk, hk12, hm0, hm1, rfl, rfl, hwr⟩ := hrel
    subst hwr
    by_cases hlt : k < l.length
    · have i0 := HH.out.index etW k hlt
      obtain ⟨d0, d1⟩ := win_cells HH.out (Below.refl _ _) k hlt
      obtain ⟨x, hx⟩ : ∃ x, x = l[k].len.1 := ⟨_, rfl⟩
      obtain ⟨y, hy⟩ : ∃ y, y = l[k].part.1 := ⟨_, rfl⟩
      have HW : Hid (winOk l[k] = decide (1 ≤ x ∧ x ≤ 64 ∧ 0 ≤ y ∧ y ≤ 6)) := by rw [hx, hy]; rfl
      have HS : Hid (m + x = sumL (l.take (k + 1))) := by rw [Hid, sumL_take _ _ hlt, hm.out, hx]
      rw [← hx] at d0
      rw [← hy] at d1
      clear hx hy
      by_cases h12 : 12 ≤ k
      · have HF : Hid (R = false) := by rw [Hid, HR.out, mayW, decide_eq_false (by omega)]; rfl
        go_wp2_with fail
        go_ret
        exact ⟨ret_bool HF.out.symm, Below.refl _ _⟩
      by_cases hq : 1 ≤ x ∧ x ≤ 64 ∧ 0 ≤ y ∧ y ≤ 6
      · obtain ⟨q1, q2, q3, q4⟩ := hq
        have HA : Hid ((l.take (k + 1)).all winOk = true) := by rw [Hid, all_take _ _ _ hlt, ha.out, HW.out, decide_eq_true ⟨q1, q2, q3, q4⟩]; rfl
        go_wp2_with fail
        go_roundw
        case rel => exact ⟨k + 1, m + x, HA.out, HS.out, by omega, by omega, by omega, by omega, rfl, by go_num, trivial⟩
        case measure => simp [intOf]; omega
      · have HF : Hid (R = false) := by rw [Hid, HR.out, mayW, all_not _ _ _ hlt (by rw [HW.out, decide_eq_false hq])]; simp
        have HQ := Lib.hid hq
        clear hq
        go_wp2_with fail
        all_goals first
          | (go_ret; exact ⟨ret_bool HF.out.symm, Below.refl _ _⟩)
          | (exfalso; have := HQ.out; omega)
    · have hk2 : k = l.length := by omega
      have HA : Hid (l.all winOk = true) := by have := ha.out; rw [hk2, List.take_length] at this; exact this
      have HM : Hid (m = sumL l) := by rw [Hid, hm.out, hk2, List.take_length]
      have HK := Lib.hid hk2
      clear hk2
      go_wp2_with fail
      all_goals
        go_ret
        refine ⟨ret_bool ?_, Below.refl _ _⟩
        rw [HR.out, mayW, HA.out, ← HM.out, Bool.true_and]
        have := HK.out
        first | (rw [Bool.eq_iff_iff]; simp only [Bool.and_eq_true, decide_eq_true_eq]; omega) | (rw [decide_eq_false (by omega)]; rfl)
end Go.Proofs.Ytpnbaapjjchlbaa

/- Variables that hold a whole array or struct: making, loading, storing them; a result that lies in one. No condition. -/
namespace Go.Cit
open Go Go.RowKit

theorem setRow_same {w : World} {b : Nat} {C C' : Array Value} {T : TypeId} {fr : Nat × Nat} (h : w.heap[b]? = some (.cells C T fr)) : (w.setRow b C').heap[b]? = some (.cells C' T fr) := by
  simp [World.setRow, Array.getElem?_modify, h]
theorem setRow_save (w : World) (b : Nat) (C' : Array Value) : Save (· ≠ b) w (w.setRow b C') := by
  refine ⟨rfl, rfl, rfl, by simp [World.setRow], fun k _ hk => ?_⟩
  simp [World.setRow, Array.getElem?_modify, Ne.symm hk]

section
variable {P : Program} {ops : Array Oper} {rest : List Oper} {o : Oper} {act : Act} {w w' : World} {Q : Exit → Act → World → Prop}
theorem wpList_value {v : Value} (hgd : o.guard = none) (hr : (execOp act.eval o).run P w = .ok (.value v) w')
    (h : wpList P ops Q rest (act.put o.dst v) w') : wpList P ops Q (o :: rest) act w := by
  refine wpList_plain hgd fun K hK => ?_
  unfold Oper.wp
  rw [hr]
  exact hK _ _ h
theorem wpList_skip (hgd : o.guard = none) (hr : (execOp act.eval o).run P w = .ok .skip w')
    (h : wpList P ops Q rest (act.put o.dst undef) w') : wpList P ops Q (o :: rest) act w := by
  refine wpList_plain hgd fun K hK => ?_
  unfold Oper.wp
  rw [hr]
  exact hK _ _ h

/-- A type whose values are rows of n cells. -/
structure RowType (P : Program) (T : TypeId) (n : Nat) : Prop where
  desc : ∃ d, P.underlying T = some d ∧ d.isRow = true
  info : (P.info? T).map (·.size) = some n

theorem run_loadB {T E : TypeId} {b : Nat} {C : Array Value} {fr : Nat × Nat} {d : TypeDesc} (hu : P.underlying T = some d) (hd : d.isRow = true) (hi : (P.info? T).map (·.size) = some C.size) (hb : w.heap[b]? = some (.cells C E fr)) :
    (loadVar T ⟨b, 0, none⟩).run P w = .ok (.agg C) w := by
  have := run_loadVar_mid (P := P) w b 0 T C.toList d (fun j v hv => by
    have hv' : C[j]? = some v := by simpa using hv
    rw [Nat.zero_add, World.cell?, hb]
    exact hv') hu hd (by simpa using hi)
  simpa using this
theorem wpList_loadB {T E : TypeId} {n b : Nat} {C : Array Value} {fr : Nat × Nat} (hT : RowType P T n) (x : Operand) (hgd : o.guard = none) (ho : o.op = .load T x) (hx : act.eval x = .pointer (some ⟨b, 0, none⟩)) (hb : w.heap[b]? = some (.cells C E fr)) (hn : C.size = n)
    (h : wpList P ops Q rest (act.put o.dst (.agg C)) w) : wpList P ops Q (o :: rest) act w := by
  obtain ⟨⟨d, hu, hd⟩, hi⟩ := hT
  have hr := run_loadB (P := P) hu hd (by rw [hi, hn]) hb
  refine wpList_value (w' := w) (v := .agg C) hgd ?_ h
  unfold execOp
  simp only [ho, hx, Sem.run_bind, Instr.loadAt, Instr.sureAddr, Sem.run_pure, Result.andThen, hr]
theorem wpList_storeB {T E : TypeId} {n b : Nat} {C C' : Array Value} (hT : RowType P T n) (x y : Operand) (hgd : o.guard = none) (ho : o.op = .store T x y) (hd : o.dst = none) (hx : act.eval x = .pointer (some ⟨b, 0, none⟩)) (hy : act.eval y = .agg C') (hb : w.heap[b]? = some (.cells C E (0, 0)))
    (hn : C.size = n) (hn' : C'.size = n) (h1 : C'.all (·.oneCell') = true)
    (h : ∀ w', w'.heap[b]? = some (.cells C' E (0, 0)) → Save (· ≠ b) w w' → wpList P ops Q rest act w') : wpList P ops Q (o :: rest) act w := by
  have hr := run_storeVar_row (P := P) w b E T C C' hb (by rw [hT.info, hn']) (by rw [hn, hn']) h1
  refine wpList_skip (w' := w.setRow b C') hgd ?_ ?_
  · unfold execOp
    simp only [ho, hx, hy, Sem.run_bind, Instr.storeAt, Instr.sureAddr, Sem.run_pure, Result.andThen, hr]
  · rw [hd]; exact h _ (setRow_same hb) (setRow_save _ _ _)
end

section
variable {P : Program} {w : World} {fn : Func} {tmps : Array Value}
theorem resB1 {T E : TypeId} {n b a : Nat} {C : Array Value} {fr : Nat × Nat} (hT : RowType P T n) (hf : fn.results = #[.cell a T]) (ha : tmps.getD a undef = .pointer (some ⟨b, 0, none⟩)) (hb : w.heap[b]? = some (.cells C E fr)) (hn : C.size = n) :
    (results fn tmps).run P w = .ok (.agg C) w := by
  obtain ⟨⟨d, hu, hd⟩, hi⟩ := hT
  have hr := run_loadB (P := P) hu hd (by rw [hi, hn]) hb
  have ha2 : tmps[a]?.getD undef = .pointer (some ⟨b, 0, none⟩) := by rw [← Array.getD_eq_getD_getElem?]; exact ha
  simp [results, hf, ha2, asAddr, hr]
theorem resB2 {T E : TypeId} {n b a t : Nat} {C : Array Value} {fr : Nat × Nat} (hT : RowType P T n) (hf : fn.results = #[.cell a T, .tmp t]) (ha : tmps.getD a undef = .pointer (some ⟨b, 0, none⟩)) (hb : w.heap[b]? = some (.cells C E fr)) (hn : C.size = n) :
    (results fn tmps).run P w = .ok (.tuple #[.agg C, tmps.getD t undef]) w := by
  obtain ⟨⟨d, hu, hd⟩, hi⟩ := hT
  have hr := run_loadB (P := P) hu hd (by rw [hi, hn]) hb
  have ha2 : tmps[a]?.getD undef = .pointer (some ⟨b, 0, none⟩) := by rw [← Array.getD_eq_getD_getElem?]; exact ha
  simp [results, hf, ha2, asAddr, hr]
end
end Go.Cit

