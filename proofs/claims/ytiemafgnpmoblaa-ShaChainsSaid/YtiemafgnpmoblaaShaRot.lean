/- sha.three, turned, moved: walked. -/
import Derived.Test.YtiemafgnpmoblaaShaDef
import Derived.Test.YtiemafgnpmoblaaRefOrder
namespace Go.Proofs.Ytiemafgnpmoblaa
open Go Go.RowKit Go.Cit

theorem neg_and (a : Nat) (h1 : 1 ≤ a) (h31 : a ≤ 31) : bits BinOp.and IntKind.u64 (IntKind.u64.wrap (-(a : Int))) 31 = ((32 - a : Nat) : Int) := by
  have h : ∀ a : Fin 32, 1 ≤ a.1 → bits BinOp.and IntKind.u64 (IntKind.u64.wrap (-(a.1 : Int))) 31 = ((32 - a.1 : Nat) : Int) := by decide +kernel
  exact h ⟨a, by omega⟩ h1

theorem rot_calls (w : World) (x : UInt32) (a : Nat) (h1 : 1 ≤ a) (h31 : a ≤ 31) :
    Calls Try.prog 85 #[vw x, .int .i64 (-(a : Int))] w fun e w' => e = .returned (vw (rotN a x)) ∧ w' = w := by
  have hs := neg_and a h1 h31
  obtain ⟨s, hsd⟩ : ∃ s, 32 - a = s := ⟨_, rfl⟩
  rw [hsd] at hs
  have hs1 : (s : Int) ≤ 32 := by omega
  have hs2 : (32 : Int) - s = a := by omega
  have hs3 : (0 : Int) ≤ a := by omega
  have hs4 : (a : Int) ≤ 32 := by omega
  have HR : Hid (bits .or .u32 (IntKind.u32.wrap ((x.toNat : Int) * 2 ^ s)) ((x.toNat : Int) / 2 ^ a) = ((rotN a x).toNat : Int)) := by
    have h := rot_or a x h1 h31
    rw [hsd] at h
    have e1 : IntKind.u32.wrap ((x.toNat : Int) * 2 ^ s) = ((x.toNat * 2 ^ s % 4294967296 : Nat) : Int) := by
      rw [wrap_u32_eq, Int.natCast_emod, Int.natCast_mul, Int.natCast_pow]; rfl
    have e2 : (x.toNat : Int) / 2 ^ a = ((x.toNat / 2 ^ a : Nat) : Int) := by rw [Int.natCast_ediv, Int.natCast_pow]; rfl
    rw [Hid, e1, e2, u32_or_nat _ _ (Nat.mod_lt _ (by decide)) (Nat.lt_of_le_of_lt (Nat.div_le_self _ _) (w_lt x)), h]
  clear hsd h1 h31
  go_enter Try.func85, Try.ntmps85
  go_wp2_with fail
  go_ret
  exact ⟨ret_int HR.out, rfl⟩
theorem three_calls (w : World) (x y : UInt32) (a b : Nat) (h1 : 1 ≤ a) (h31 : a ≤ 31) (k1 : 1 ≤ b) (k31 : b ≤ 31) :
    Calls Try.prog 84 #[vw x, .int .i64 (a : Int), .int .i64 (b : Int), vw y] w fun e w' => e = .returned (vw (threeW a b x y)) ∧ w' = w := by
  go_enter Try.func84, Try.ntmps84
  go_wp2_with fail
  refine (rot_calls w x a h1 h31).mono ?_
  rintro e w' ⟨rfl, rfl⟩
  go_wp2_with fail
  refine (rot_calls _ x b k1 k31).mono ?_
  rintro e w' ⟨rfl, rfl⟩
  go_wp2_with fail
  go_ret
  exact ⟨rfl, rfl⟩
theorem turned_calls (w : World) (x : UInt32) (a b c : Nat) (h1 : 1 ≤ a) (h31 : a ≤ 31) (k1 : 1 ≤ b) (k31 : b ≤ 31) (m1 : 1 ≤ c) (m31 : c ≤ 31) :
    Calls Try.prog 70 #[vw x, .int .i64 (a : Int), .int .i64 (b : Int), .int .i64 (c : Int)] w fun e w' => e = .returned (vw (turnedW a b c x)) ∧ w' = w := by
  go_enter Try.func70, Try.ntmps70
  go_wp2_with fail
  refine (rot_calls w x c m1 m31).mono ?_
  rintro e w' ⟨rfl, rfl⟩
  go_wp2_with fail
  refine (three_calls _ x _ a b h1 h31 k1 k31).mono ?_
  rintro e w' ⟨rfl, rfl⟩
  go_wp2_with fail
  go_ret
  exact ⟨rfl, rfl⟩
theorem moved_calls (w : World) (x : UInt32) (a b c : Nat) (h1 : 1 ≤ a) (h31 : a ≤ 31) (k1 : 1 ≤ b) (k31 : b ≤ 31) (m31 : c ≤ 31) :
    Calls Try.prog 83 #[vw x, .int .i64 (a : Int), .int .i64 (b : Int), .int .i64 (c : Int)] w fun e w' => e = .returned (vw (movedW a b c x)) ∧ w' = w := by
  have hc0 : (0 : Int) ≤ c := by omega
  have hc1 : (c : Int) ≤ 32 := by omega
  have hS : Hid ((x.toNat : Int) / 2 ^ c = ((shrN c x).toNat : Int)) := by
    rw [Hid, shrN_toNat, Int.natCast_ediv, Int.natCast_pow]; rfl
  have hk : Calls Try.prog 84 #[vw x, .int .i64 (a : Int), .int .i64 (b : Int), .int .u32 ((x.toNat : Int) / 2 ^ c)] w fun e w' => e = .returned (vw (movedW a b c x)) ∧ w' = w := by
    rw [hS.out]; exact three_calls w x _ a b h1 h31 k1 k31
  go_enter Try.func83, Try.ntmps83
  go_wp2_with fail
  refine hk.mono ?_
  rintro e w' ⟨rfl, rfl⟩
  go_wp2_with fail
  go_ret
  exact ⟨rfl, rfl⟩
end Go.Proofs.Ytiemafgnpmoblaa
