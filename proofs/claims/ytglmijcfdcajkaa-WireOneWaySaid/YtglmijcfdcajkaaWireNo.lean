/- Readers and writers that nobody made: contracts. -/
import Derived.Test.YtglmijcfdcajkaaWireTag2
import Derived.Test.YtglmijcfdcajkaaWirePut
namespace Go.Proofs.Ytglmijcfdcajkaa
open Go Go.RowKit Go.Cit

/-- A reader that nobody made. -/
def NoR (w : World) (p : Option Addr) : Prop := p = none ∨ ∃ b, p = some ⟨b, 0, none⟩ ∧ w.heap[b]? = some (.cells #[.slice none 0 0, .bool false, .int .i64 0] 54 (0, 0))
theorem NoR.stay {w w' p} (h : NoR w p) (hb : Below w.heap.size w w') : NoR w' p := by
  rcases h with h | ⟨b, h, hx⟩
  · exact .inl h
  · exact .inr ⟨b, h, (hb.block b (Array.getElem?_eq_some_iff.1 hx).1).trans hx⟩
/-- A call that answers v, and writes nothing that was. -/
def Zero (w : World) (v : Value) (r : Ending) (w' : World) : Prop := r = .returned v ∧ Below w.heap.size w w'

theorem nowhole_calls {w p} (h : NoR w p) : Calls Try.prog 52 #[.pointer p] w fun r w' => r = .returned (.bool false) ∧ w = w' := by
  rcases h with rfl | ⟨b, rfl, hx⟩
  · go_enter Try.func52, Try.ntmps52
    go_wp2_with fail
    go_ret
    exact ⟨rfl, rfl⟩
  · have c1 : w.cell? ⟨b, 1, none⟩ = some (.bool false) := by rw [World.cell?, hx]; rfl
    go_enter Try.func52, Try.ntmps52
    go_wp2_with fail
    go_ret
    exact ⟨rfl, rfl⟩
theorem nobreaks_calls {w p} (h : NoR w p) : Calls Try.prog 82 #[.pointer p] w fun r w' => r = .returned (.tuple #[]) ∧ w = w' := by
  go_enter Try.func82, Try.ntmps82
  go_wp2_with fail
  refine (nowhole_calls h).mono ?_
  rintro r w1 ⟨rfl, rfl⟩
  go_wp2_with fail
  go_end0
  exact ⟨rfl, rfl⟩
theorem notake_calls {w p} (h : NoR w p) (n : Int) : Calls Try.prog 81 #[.pointer p, .int .i64 n] w fun r w' => r = .returned (.tuple #[.slice none 0 0, .bool false]) ∧ w = w' := by
  go_enter Try.func81, Try.ntmps81
  go_wp2_with fail
  refine (nowhole_calls h).mono ?_
  rintro r w1 ⟨rfl, rfl⟩
  go_wp2_with fail
  refine (nobreaks_calls h).mono ?_
  rintro r w1 ⟨rfl, rfl⟩
  go_wp2_with fail
  go_ret2
  exact ⟨rfl, rfl⟩
theorem noerr_calls {w p} (h : NoR w p) : Calls Try.prog 18 #[.pointer p] w fun r w' => r = .returned (.int .i64 1) ∧ w = w' := by
  rcases h with rfl | ⟨b, rfl, hx⟩
  · go_enter Try.func18, Try.ntmps18
    go_wp2_with fail
    go_ret
    exact ⟨rfl, rfl⟩
  · have c1 : w.cell? ⟨b, 1, none⟩ = some (.bool false) := by rw [World.cell?, hx]; rfl
    go_enter Try.func18, Try.ntmps18
    go_wp2_with fail
    go_ret
    exact ⟨rfl, rfl⟩
theorem noleft_calls {w p} (h : NoR w p) : Calls Try.prog 19 #[.pointer p] w fun r w' => r = .returned (.int .i64 0) ∧ w = w' := by
  go_enter Try.func19, Try.ntmps19
  go_wp2_with fail
  refine (nowhole_calls h).mono ?_
  rintro r w1 ⟨rfl, rfl⟩
  go_wp2_with fail
  go_ret
  exact ⟨rfl, rfl⟩
theorem noend_calls {w p} (h : NoR w p) : Calls Try.prog 24 #[.pointer p] w fun r w' => r = .returned (.int .i64 1) ∧ w = w' := by
  go_enter Try.func24, Try.ntmps24
  go_wp2_with fail
  refine (noleft_calls h).mono ?_
  rintro r w1 ⟨rfl, rfl⟩
  go_wp2_with fail
  refine (noerr_calls h).mono ?_
  rintro r w1 ⟨rfl, rfl⟩
  go_wp2_with fail
  go_ret
  exact ⟨rfl, rfl⟩
end Go.Proofs.Ytglmijcfdcajkaa
