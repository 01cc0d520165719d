/- The reference's sum: walked. -/
import Derived.Test.YtbglmglgaobjmaaProg
import Derived.Test.YtbglmglgaobjmaaRefCat
import Derived.Test.YtbglmglgaobjmaaCrcDef
namespace Go.Proofs.Ytbglmglgaobjmaa
open Go Go.RowKit Go.Cit

set_option maxHeartbeats 1000000 in
theorem refadd_calls (w : World) (c : UInt32) (a0 : Option Addr) (l : List UInt8) (c0 : Nat) (h0 : Row w a0 l c0) :
    Calls Try.prog 22 #[vw c, .slice a0 l.length c0] w fun e w' => e = .returned (vw (addR c l)) ∧ w' = w := by
  have b0 := h0.len_le
  go_enter Try.func22, Try.ntmps22
  go_wp2
  go_loop [0, 5] (fun s i => ∃ (k : Nat) (d : UInt32), Hid (d = (l.take k).foldl byteR (wXor c (wI 0xffffffff))) ∧ k ≤ l.length ∧ i = .int .i64 k ∧ s = vw d) (fun _ i => l.length - (intOf i).toNat)
  case atStart => exact ⟨0, _, rfl, Nat.zero_le _, rfl, rfl⟩
  case round =>
    obtain ⟨k, d, HD, hk, rfl, rfl⟩ := hrel
    by_cases hlt : k < l.length
    · have i0 := h0.index bt.slice bt.sz k hlt
      have e0 := h0.cell k hlt
      go_wp2
      go_loop [0, 6] (fun s i => ∃ (j : Nat) (b : UInt32), Hid (b = bitsR j (wXor d (wOfB l[k]))) ∧ j ≤ 8 ∧ i = .int .i64 j ∧ s = vw b) (fun _ i => 8 - (intOf i).toNat)
      case atStart => exact ⟨0, _, rfl, Nat.zero_le _, rfl, rfl⟩
      case round =>
        clear i0 e0
        obtain ⟨j, b, HB, hj, rfl, rfl⟩ := hrel
        by_cases hjl : j < 8
        · cases ho : wMod b (wI 2) == wI 1
          · go_wp2
            go_round
            case rel => exact ⟨j + 1, wDiv b (wI 2), by rw [Hid, bitsR_succ, ← HB.out, bitR, ho]; rfl, by omega, by go_num, rfl⟩
            case measure => simp [intOf]; omega
          · go_wp2
            go_round
            case rel => exact ⟨j + 1, wXor (wDiv b (wI 2)) (wI 0xedb88320), by rw [Hid, bitsR_succ, ← HB.out, bitR, ho]; rfl, by omega, by go_num, rfl⟩
            case measure => simp [intOf]; omega
        · have hj8 : j = 8 := by omega
          have HB2 : Hid (b = byteR d l[k]) := by rw [Hid, HB.out, hj8]; rfl
          clear HB hj8
          go_wp2
          go_round
          case rel => exact ⟨k + 1, b, by rw [Hid, ← take_snoc l k hlt, List.foldl_append, ← HD.out]; exact HB2.out, by omega, by go_num, rfl⟩
          case measure => simp [intOf]; omega
    · have hk2 : k = l.length := by omega
      have HD2 : Hid (d = l.foldl byteR (wXor c (wI 0xffffffff))) := by rw [Hid, HD.out, hk2, List.take_length]
      clear HD hk2
      go_wp2
      go_ret
      exact ⟨ret_int (by rw [HD2.out]; rfl), rfl⟩

theorem refsum_calls (w : World) (a0 : Option Addr) (l : List UInt8) (c0 : Nat) (h0 : Row w a0 l c0) :
    Calls Try.prog 20 #[.slice a0 l.length c0] w fun e w' => e = .returned (vw (addR 0 l)) ∧ w' = w := by
  go_enter Try.func20, Try.ntmps20
  go_wp2_with (go_at_call 22; refine (refadd_calls _ 0 _ _ _ h0).mono ?_; rintro e w' ⟨rfl, rfl⟩)
  go_ret
  exact ⟨rfl, rfl⟩
end Go.Proofs.Ytbglmglgaobjmaa
