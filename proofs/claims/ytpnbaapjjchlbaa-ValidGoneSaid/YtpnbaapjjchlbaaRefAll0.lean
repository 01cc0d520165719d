/- The reference's All of chapter 12: walked. -/
import Derived.Test.YtpnbaapjjchlbaaIs12
import Derived.Test.YtpnbaapjjchlbaaOverlap
import Derived.Test.YtpnbaapjjchlbaaPlain12
import Derived.Test.YtpnbaapjjchlbaaVals
import Derived.Test.YtpnbaapjjchlbaaRefChk
import Derived.Deep.CutBlock
import Derived.Deep.DeepCutAuto
namespace Go.Proofs.Ytpnbaapjjchlbaa
open Go Go.RowKit Go.Cit

/-- What stands behind the first n parts. -/
def restC : Nat → Code → Code
  | 0, c => c
  | n + 1, .seq _ b => restC n b
  | _, c => c
def bodyC (f : Func) : Code := match f.body with | some c => c | none => .skip
def r30B : Boxes := ⟨2, fun j => if j = 0 then 12 else 13, fun j => if j = 0 then 14 else 15, fun j => if j = 0 then 10 else 11, fun _ => 40, fun _ => #[.int .i64 0, .int .i64 0]⟩
def r30X (x y : Reg) (j : Nat) (C : Array Value) (_ : World) : Prop := C = if j = 0 then #[.int .i64 x.base.1, .int .i64 x.size.1] else #[.int .i64 y.base.1, .int .i64 y.size.1]
def r30T (V : CfgV) (B k j : Nat) (x y : Reg) (d : Nat) (v : Value) (_ : World) : Prop := match d with
  | 160 => v = .pointer (some ⟨B, 1, none⟩)
  | 161 => v = .slice V.pa V.ps.length V.pc
  | 162 => v = .int .i64 (k : Int)
  | 163 => v = .pointer (some (ad V.pa (k * 5)))
  | 164 => v = .pointer (some ⟨(ad V.pa (k * 5)).block, (ad V.pa (k * 5)).off + 1, none⟩)
  | 165 => v = .agg #[.int .i64 x.base.1, .int .i64 x.size.1]
  | 166 => v = .pointer (some ⟨B, 1, none⟩)
  | 167 => v = .slice V.pa V.ps.length V.pc
  | 168 => v = .int .i64 (j : Int)
  | 169 => v = .pointer (some (ad V.pa (j * 5)))
  | 170 => v = .pointer (some ⟨(ad V.pa (j * 5)).block, (ad V.pa (j * 5)).off + 1, none⟩)
  | 171 => v = .agg #[.int .i64 y.base.1, .int .i64 y.size.1]
  | _ => True
theorem ne30 {n : Nat} {o : Option Nat} (h1 : n ≠ 12 ∧ n ≠ 13) (h2 : n ≠ 14 ∧ n ≠ 15) (h3 : o ≠ some 10) (h4 : o ≠ some 11) : ∀ j, j < r30B.nb → n ≠ r30B.ia j ∧ n ≠ r30B.is_ j ∧ o ≠ some (r30B.d j) := by
  intro j hj
  rcases (show j = 0 ∨ j = 1 by have : j < 2 := hj; omega) with rfl | rfl
  · exact ⟨h1.1, h2.1, h3⟩
  · exact ⟨h1.2, h2.2, h4⟩
theorem alloc30 (ρ : Operand → Value) (o : Oper) (w : World) (h : o.op = .alloc 40) : (execOp ρ o).run Try.prog w = .ok (.value (.pointer (some ⟨w.heap.size, 0, none⟩))) (w.alloc (.cells #[.int .i64 0, .int .i64 0] 40)) := by
  unfold execOp; rw [h]; kernel_rfl
theorem store30 (ρ : Operand → Value) (o : Oper) (wx : World) (p s : Operand) (h : o.op = .store 40 p s) {z : Reg} {g : Nat} {D : Array Value} (hg : ρ p = .pointer (some ⟨g, 0, none⟩)) (hs : ρ s = .agg #[.int .i64 z.base.1, .int .i64 z.size.1])
    (hD : wx.heap[g]? = some (.cells D 40 (0, 0))) (hDs : D.size = (#[.int .i64 z.base.1, .int .i64 z.size.1] : Array Value).size) :
    ∃ w', (execOp ρ o).run Try.prog wx = .ok .skip w' ∧ w'.heap[g]? = some (.cells #[.int .i64 z.base.1, .int .i64 z.size.1] 40 (0, 0)) ∧ Save (· ≠ g) wx w' := by
  have hr := run_storeVar_row (P := Try.prog) wx g 40 40 D #[.int .i64 z.base.1, .int .i64 z.size.1] hD (by kernel_rfl) hDs (by simp [Value.oneCell'])
  refine ⟨wx.setRow g #[.int .i64 z.base.1, .int .i64 z.size.1], ?_, setRow_same hD, setRow_save _ _ _⟩
  unfold execOp
  simp only [h, hg, hs, Sem.run_bind, Instr.storeAt, Instr.sureAddr, Sem.run_pure, Result.andThen, hr]
theorem fin12 {w w0 w' : World} {R L : List Int} {a : Option Addr} {c : Nat} (h : R = L) (hO : VOwn cZ 1 3 w0.heap.size w' a L c) (hb : Below w.heap.size w w') (hs : w.heap.size ≤ w0.heap.size) :
    ∃ a' c', Ending.returned (.slice a L.length c) = .returned (.slice a' R.length c') ∧ VOwn cZ 1 3 w.heap.size w' a' R c' ∧ Below w.heap.size w w' := by
  subst h
  exact ⟨a, c, rfl, hO.low hs, hb⟩
end Go.Proofs.Ytpnbaapjjchlbaa
