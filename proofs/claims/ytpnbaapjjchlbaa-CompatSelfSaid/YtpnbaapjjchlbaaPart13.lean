/- Chapter 13's law: part: walked. -/
import Derived.Test.YtpnbaapjjchlbaaPart
namespace Go.Proofs.Ytpnbaapjjchlbaa
open Go Go.RowKit Go.Cit

set_option maxRecDepth 100000 in
set_option maxHeartbeats 1000000 in
theorem part13_calls (w : World) (i b s : Int) (k : Bool) : Calls Try.prog 138 #[.int .i64 i, .int .i64 b, .int .i64 s, .bool k] w fun e w' => e = .returned (.agg #[.int .i64 i, .int .i64 b, .int .i64 s, .bool k, .slice none 0 0]) ∧ Below w.heap.size w w' := by
  go_enter Try.func138, Try.ntmps138
  go_wp2_with fail
  have hres : (w.alloc (.cells #[.int .i64 i, .int .i64 b, .int .i64 s, .bool k, .slice none 0 0] 43)).heap[w.heap.size]? = _ := heap_alloc_new w _
  exact bodyPost_ret (resB1 rowP rfl (by rfl) hres rfl) rfl ⟨rfl, (Below.refl _ w).alloc (Nat.le_refl _) _⟩
end Go.Proofs.Ytpnbaapjjchlbaa
