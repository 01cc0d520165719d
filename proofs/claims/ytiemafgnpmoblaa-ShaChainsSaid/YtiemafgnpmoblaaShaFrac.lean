/- sha.square, cube, fraction: walked. -/
import Derived.Test.YtiemafgnpmoblaaShelf
import Derived.Test.YtiemafgnpmoblaaRefOrder
import Derived.IntWalk
namespace Go.Proofs.Ytiemafgnpmoblaa
open Go Go.RowKit Go.Cit

/-- Is the square of x at most p, 2^64 times; is the cube, 2^96 times? -/
def sqN (x p : Nat) : Bool := decide (x * x / 18446744073709551616 < p) || (decide (x * x / 18446744073709551616 = p) && decide (x * x % 18446744073709551616 = 0))
def cuHi (x : Nat) : Nat := (x * x / 18446744073709551616 * x % 18446744073709551616 + x * x % 18446744073709551616 * x / 18446744073709551616) % 18446744073709551616
def cuLo (x : Nat) : Nat := x * x % 18446744073709551616 * x % 18446744073709551616
def cuN (x p : Nat) : Bool := decide (cuHi x < p * 4294967296) || (decide (cuHi x = p * 4294967296) && decide (cuLo x = 0))

theorem eqI {a b : Nat} {r : Bool} (h : decide (a = b) = r) : ((a : Int) == (b : Int)) = r := by
  rw [← h, Bool.eq_iff_iff, beq_iff_eq, decide_eq_true_eq]
  constructor <;> intro h <;> omega

theorem square_calls (w : World) (x p : Nat) (hx : x < 274877906944) (hp : p < 4294967296) :
    Calls Try.prog 52 #[.int .u64 x, .int .u64 p] w fun e w' => e = .returned (.bool (sqN x p)) ∧ w' = w := by
  have hm := Try.bits_Mul64 x x (by omega) (by omega) w
  have HV : Hid (sqN x p = (decide (x * x / 18446744073709551616 < p) || (decide (x * x / 18446744073709551616 = p) && decide (x * x % 18446744073709551616 = 0)))) := rfl
  generalize x * x / 18446744073709551616 = h at hm HV
  generalize x * x % 18446744073709551616 = l at hm HV
  obtain ⟨b1, hb1⟩ : ∃ b, decide (h < p) = b := ⟨_, rfl⟩
  obtain ⟨b2, hb2⟩ : ∃ b, decide (h = p) = b := ⟨_, rfl⟩
  obtain ⟨b3, hb3⟩ : ∃ b, decide (l = 0) = b := ⟨_, rfl⟩
  rw [hb1, hb2, hb3] at HV
  have e2 := eqI hb2
  have e3 : ((l : Int) == 0) = b3 := eqI hb3
  have e1 : decide ((h : Int) < (p : Int)) = b1 := by rw [← hb1]; simp
  have HB := Lib.hid (And.intro hb2 hb3)
  clear hb2 hb3
  cases b1 <;> cases b2 <;> cases b3
  all_goals
    go_enter Try.func52, Try.ntmps52
    go_wp2_with fail
    refine hm.mono ?_
    rintro e w' ⟨rfl, rfl⟩
    go_wp2_with fail
    go_ret
    exact ⟨by rw [HV.out]; rfl, rfl⟩

set_option maxHeartbeats 1000000 in
theorem cube_calls (w : World) (x p : Nat) (hx : x < 274877906944) (hp : p < 4294967296) :
    Calls Try.prog 71 #[.int .u64 x, .int .u64 p] w fun e w' => e = .returned (.bool (cuN x p)) ∧ w' = w := by
  have hm := Try.bits_Mul64 x x (by omega) (by omega) w
  have hm2 := Try.bits_Mul64 (x * x % 18446744073709551616) x (Nat.mod_lt _ (by decide)) (by omega) w
  have HV : Hid (cuN x p = (decide (cuHi x < p * 4294967296) || (decide (cuHi x = p * 4294967296) && decide (cuLo x = 0)))) := rfl
  have e5 : IntKind.u64.wrap ((p : Int) * 4294967296) = ((p * 4294967296 : Nat) : Int) := by rw [wrap_u64_eq]; omega
  have HC : Hid (cuHi x = (x * x / 18446744073709551616 * x % 18446744073709551616 + x * x % 18446744073709551616 * x / 18446744073709551616) % 18446744073709551616) := rfl
  have HL : Hid (cuLo x = x * x % 18446744073709551616 * x % 18446744073709551616) := rfl
  generalize x * x % 18446744073709551616 * x / 18446744073709551616 = m at hm2 HC
  generalize x * x % 18446744073709551616 * x % 18446744073709551616 = k at hm2 HL
  generalize x * x / 18446744073709551616 = h at hm HC
  generalize x * x % 18446744073709551616 = l at hm hm2
  have e6 : IntKind.u64.wrap (IntKind.u64.wrap ((h : Int) * (x : Int)) + (m : Int)) = ((cuHi x : Nat) : Int) := by
    rw [wrap_u64_eq, wrap_u64_eq, HC.out, Int.natCast_emod, Int.natCast_add, Int.natCast_emod, Int.natCast_mul]; rfl
  rw [← HL.out] at hm2
  generalize cuHi x = H at e6 HV
  generalize cuLo x = L at hm2 HV
  generalize p * 4294967296 = Q at e5 HV
  obtain ⟨b1, hb1⟩ : ∃ b, decide (H < Q) = b := ⟨_, rfl⟩
  obtain ⟨b2, hb2⟩ : ∃ b, decide (H = Q) = b := ⟨_, rfl⟩
  obtain ⟨b3, hb3⟩ : ∃ b, decide (L = 0) = b := ⟨_, rfl⟩
  rw [hb1, hb2, hb3] at HV
  have e2 := eqI hb2
  have e3 : ((L : Int) == 0) = b3 := eqI hb3
  have e1 : decide ((H : Int) < (Q : Int)) = b1 := by rw [← hb1]; simp
  have HB := Lib.hid (And.intro hb2 hb3)
  clear hb2 hb3 HC HL
  cases b1 <;> cases b2 <;> cases b3
  all_goals
    go_enter Try.func71, Try.ntmps71
    go_wp2_with fail
    refine hm.mono ?_
    rintro e w' ⟨rfl, rfl⟩
    go_wp2_with fail
    refine hm2.mono ?_
    rintro e w' ⟨rfl, rfl⟩
    go_wp2_with fail
    go_ret
    exact ⟨by rw [HV.out]; rfl, rfl⟩

/-- The greatest number below 2^m beyond fr of which h holds. -/
def bis (h : Nat → Bool) : Nat → Nat → Nat
  | 0, fr => fr
  | m + 1, fr => if h (fr + 2 ^ m) then bis h m (fr + 2 ^ m) else bis h m fr

set_option maxHeartbeats 1000000 in
theorem fracSq_calls (w : World) (p : Nat) (hp : p < 4294967296) :
    Calls Try.prog 51 #[.int .u64 p, .func (.func 52) #[] #[]] w fun e w' => e = .returned (.int .u32 ((bis (fun x => sqN x p) 37 0 % 4294967296 : Nat) : Int)) ∧ w' = w := by
  go_enter Try.func51, Try.ntmps51
  go_wp2_with fail
  go_loop [5, 6] (fun a b => ∃ m fr : Nat, m ≤ 37 ∧ Hid (fr + 2 ^ m ≤ 137438953472) ∧ a = .int .u64 fr ∧ b = .int .u64 ((fr + 2 ^ m : Nat) : Int) ∧ Hid (bis (fun x => sqN x p) m fr = bis (fun x => sqN x p) 37 0)) (fun a b => (intOf b - intOf a).toNat)
  case atStart => exact ⟨37, 0, Nat.le_refl _, by rw [Hid]; decide, rfl, rfl, rfl⟩
  case round =>
    obtain ⟨m, fr, hm, HF, rfl, rfl, HB⟩ := hrel
    cases m with
    | zero =>
      have h1 : decide ((1 : Int) < 1) = false := by decide
      have e0 : ((fr + 2 ^ 0 : Nat) : Int) = (fr : Int) + 1 := by rw [Nat.pow_zero]; omega
      rw [e0]
      have hfr : (fr : Int) + 1 ≤ 137438953472 := by have := HF.out; rw [Nat.pow_zero] at this; omega
      have HB2 : Hid (fr = bis (fun x => sqN x p) 37 0) := HB.out
      have e1 : (fr : Int) + 1 - fr = 1 := by omega
      have e2 : IntKind.u32.wrap (fr : Int) = ((fr % 4294967296 : Nat) : Int) := by rw [wrap_u32_eq, Int.natCast_emod]; rfl
      clear HB HF
      go_wp2_with fail
      go_ret
      exact ⟨ret_int (by rw [← HB2.out]), rfl⟩
    | succ m =>
      obtain ⟨q, hq⟩ : ∃ q, 2 ^ m = q := ⟨_, rfl⟩
      have hq1 : 1 ≤ q := by rw [← hq]; exact Nat.one_le_two_pow
      have hF := HF.out
      rw [Nat.pow_succ, hq] at hF
      have e0 : ((fr + 2 ^ (m + 1) : Nat) : Int) = (fr : Int) + 2 * q := by rw [Nat.pow_succ, hq]; omega
      rw [e0]
      have e1 : (fr : Int) + 2 * q - fr = 2 * q := by omega
      have d1 : decide ((1 : Int) < 2 * q) = true := by simp; omega
      have e3 : ((fr : Int) + ((fr : Int) + 2 * q)) / 2 = ((fr + q : Nat) : Int) := by omega
      have b1 : (fr : Int) + 2 * q ≤ 137438953472 := by omega
      have HQ := Lib.hid hq
      have HBS : Hid (bis (fun x => sqN x p) (m + 1) fr = if sqN (fr + q) p then bis (fun x => sqN x p) m (fr + q) else bis (fun x => sqN x p) m fr) := by rw [Hid, bis, hq]
      have hc := square_calls w (fr + q) p (by omega) hp
      clear hq hF e0
      cases hb : sqN (fr + q) p with
      | true =>
        rw [hb] at hc
        have HB1 := Lib.hid hb
        clear hb
        go_wp2_with fail
        refine hc.mono ?_
        rintro e w' ⟨rfl, rfl⟩
        go_wp2_with fail
        go_round
        case rel => exact ⟨m, fr + q, by omega, by rw [Hid, HQ.out]; omega, rfl, by rw [HQ.out]; go_num, by rw [Hid, ← HB.out, HBS.out, HB1.out]; rfl⟩
        case measure => simp [intOf]; omega
      | false =>
        rw [hb] at hc
        have HB1 := Lib.hid hb
        clear hb
        go_wp2_with fail
        refine hc.mono ?_
        rintro e w' ⟨rfl, rfl⟩
        go_wp2_with fail
        go_round
        case rel => exact ⟨m, fr, by omega, by rw [Hid, HQ.out]; omega, rfl, by rw [HQ.out]; go_num, by rw [Hid, ← HB.out, HBS.out, HB1.out]; rfl⟩
        case measure => simp [intOf]; omega

set_option maxHeartbeats 1000000 in
theorem fracCu_calls (w : World) (p : Nat) (hp : p < 4294967296) :
    Calls Try.prog 51 #[.int .u64 p, .func (.func 71) #[] #[]] w fun e w' => e = .returned (.int .u32 ((bis (fun x => cuN x p) 37 0 % 4294967296 : Nat) : Int)) ∧ w' = w := by
  go_enter Try.func51, Try.ntmps51
  go_wp2_with fail
  go_loop [5, 6] (fun a b => ∃ m fr : Nat, m ≤ 37 ∧ Hid (fr + 2 ^ m ≤ 137438953472) ∧ a = .int .u64 fr ∧ b = .int .u64 ((fr + 2 ^ m : Nat) : Int) ∧ Hid (bis (fun x => cuN x p) m fr = bis (fun x => cuN x p) 37 0)) (fun a b => (intOf b - intOf a).toNat)
  case atStart => exact ⟨37, 0, Nat.le_refl _, by rw [Hid]; decide, rfl, rfl, rfl⟩
  case round =>
    obtain ⟨m, fr, hm, HF, rfl, rfl, HB⟩ := hrel
    cases m with
    | zero =>
      have h1 : decide ((1 : Int) < 1) = false := by decide
      have e0 : ((fr + 2 ^ 0 : Nat) : Int) = (fr : Int) + 1 := by rw [Nat.pow_zero]; omega
      rw [e0]
      have hfr : (fr : Int) + 1 ≤ 137438953472 := by have := HF.out; rw [Nat.pow_zero] at this; omega
      have HB2 : Hid (fr = bis (fun x => cuN x p) 37 0) := HB.out
      have e1 : (fr : Int) + 1 - fr = 1 := by omega
      have e2 : IntKind.u32.wrap (fr : Int) = ((fr % 4294967296 : Nat) : Int) := by rw [wrap_u32_eq, Int.natCast_emod]; rfl
      clear HB HF
      go_wp2_with fail
      go_ret
      exact ⟨ret_int (by rw [← HB2.out]), rfl⟩
    | succ m =>
      obtain ⟨q, hq⟩ : ∃ q, 2 ^ m = q := ⟨_, rfl⟩
      have hq1 : 1 ≤ q := by rw [← hq]; exact Nat.one_le_two_pow
      have hF := HF.out
      rw [Nat.pow_succ, hq] at hF
      have e0 : ((fr + 2 ^ (m + 1) : Nat) : Int) = (fr : Int) + 2 * q := by rw [Nat.pow_succ, hq]; omega
      rw [e0]
      have e1 : (fr : Int) + 2 * q - fr = 2 * q := by omega
      have d1 : decide ((1 : Int) < 2 * q) = true := by simp; omega
      have e3 : ((fr : Int) + ((fr : Int) + 2 * q)) / 2 = ((fr + q : Nat) : Int) := by omega
      have b1 : (fr : Int) + 2 * q ≤ 137438953472 := by omega
      have HQ := Lib.hid hq
      have HBS : Hid (bis (fun x => cuN x p) (m + 1) fr = if cuN (fr + q) p then bis (fun x => cuN x p) m (fr + q) else bis (fun x => cuN x p) m fr) := by rw [Hid, bis, hq]
      have hc := cube_calls w (fr + q) p (by omega) hp
      clear hq hF e0
      cases hb : cuN (fr + q) p with
      | true =>
        rw [hb] at hc
        have HB1 := Lib.hid hb
        clear hb
        go_wp2_with fail
        refine hc.mono ?_
        rintro e w' ⟨rfl, rfl⟩
        go_wp2_with fail
        go_round
        case rel => exact ⟨m, fr + q, by omega, by rw [Hid, HQ.out]; omega, rfl, by rw [HQ.out]; go_num, by rw [Hid, ← HB.out, HBS.out, HB1.out]; rfl⟩
        case measure => simp [intOf]; omega
      | false =>
        rw [hb] at hc
        have HB1 := Lib.hid hb
        clear hb
        go_wp2_with fail
        refine hc.mono ?_
        rintro e w' ⟨rfl, rfl⟩
        go_wp2_with fail
        go_round
        case rel => exact ⟨m, fr, by omega, by rw [Hid, HQ.out]; omega, rfl, by rw [HQ.out]; go_num, by rw [Hid, ← HB.out, HBS.out, HB1.out]; rfl⟩
        case measure => simp [intOf]; omega

end Go.Proofs.Ytiemafgnpmoblaa
