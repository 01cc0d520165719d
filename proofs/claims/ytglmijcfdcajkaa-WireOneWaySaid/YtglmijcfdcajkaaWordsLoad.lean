/- words.Load32, Load64, Put32, Put64 and the reference's Load: walked. -/
import Derived.Test.YtglmijcfdcajkaaWordsNum
namespace Go.Proofs.Ytglmijcfdcajkaa
open Go Go.RowKit Go.Cit

theorem load32_calls (w : World) (a0 : Option Addr) (l : List UInt8) (c0 : Nat) (t : Int) (h0 : Row w a0 l c0) :
    Calls Try.prog 68 #[.slice a0 l.length c0, .int .i64 t] w fun e w' => e = .returned (.tuple #[vw (wOfQ (loadB l t 4).1), .bool (loadB l t 4).2]) ∧ w' = w := by
  go_enter Try.func68, Try.ntmps68
  go_wp2_with (go_at_call 85; refine (load_calls _ _ _ _ _ _ 4 rfl (by decide) (by decide) h0).mono ?_; rintro e w' ⟨rfl, rfl⟩)
  go_ret2
  exact ⟨rfl, rfl⟩

theorem load64_calls (w : World) (a0 : Option Addr) (l : List UInt8) (c0 : Nat) (t : Int) (h0 : Row w a0 l c0) :
    Calls Try.prog 64 #[.slice a0 l.length c0, .int .i64 t] w fun e w' => e = .returned (.tuple #[vq (loadB l t 8).1, .bool (loadB l t 8).2]) ∧ w' = w := by
  go_enter Try.func64, Try.ntmps64
  go_wp2_with (go_at_call 85; refine (load_calls _ _ _ _ _ _ 8 rfl (by decide) (by decide) h0).mono ?_; rintro e w' ⟨rfl, rfl⟩)
  go_ret2
  exact ⟨rfl, rfl⟩

theorem put32_calls (w : World) (x : UInt32) :
    Calls Try.prog 80 #[vw x] w fun e w' => ∃ a c, e = .returned (.slice a 4 c) ∧ Own 5 w.heap.size w' a (rowB (qOfW x) 4) c ∧ Below w.heap.size w w' := by
  have hc := row_calls w (qOfW x) 4 (by decide) (by decide)
  go_enter Try.func80, Try.ntmps80
  go_wp2_with (go_at_call 75; refine hc.mono ?_; rintro e w' ⟨a, c, rfl, ho, hb⟩)
  go_ret
  exact ⟨a, c, rfl, ho, hb⟩

theorem put64_calls (w : World) (x : UInt64) :
    Calls Try.prog 35 #[vq x] w fun e w' => ∃ a c, e = .returned (.slice a 8 c) ∧ Own 5 w.heap.size w' a (rowB x 8) c ∧ Below w.heap.size w w' := by
  have hc := row_calls w x 8 (by decide) (by decide)
  go_enter Try.func35, Try.ntmps35
  go_wp2_with (go_at_call 75; refine hc.mono ?_; rintro e w' ⟨a, c, rfl, ho, hb⟩)
  go_ret
  exact ⟨a, c, rfl, ho, hb⟩

end Go.Proofs.Ytglmijcfdcajkaa
