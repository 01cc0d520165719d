/- 'p, ok := config.Part(c, id)' in a region that draws its order: a variable of its own is laid and stored into. Parts that are alike. No condition. -/
import Derived.Test.YtpnbaapjjchlbaaCopied
import Derived.Test.YtpnbaapjjchlbaaPart
import Derived.Test.YtpnbaapjjchlbaaGe
import Derived.Test.YtpnbaapjjchlbaaVals
namespace Go.Proofs.Ytpnbaapjjchlbaa
open Go Go.RowKit Go.Cit

@[reducible] def cA (x : PtV) : Array Value := #[.int .i64 x.id.1, .int .i64 x.reg.base.1, .int .i64 x.reg.size.1, .bool x.keep, .slice x.a x.img.length x.c]
/-- A partition whose fields are P's, its image one's own. -/
def ptOk (P : Pt) (x : PtV) (w : World) : Prop := x.pt = P ∧ Cit.Own 5 0 w x.a x.img x.c
def isPt (P : Pt) (v : Value) (w : World) : Prop := ∃ x : PtV, v = .agg (cA x) ∧ ptOk P x w
def isTup (P : Pt) (h : Bool) (v : Value) (w : World) : Prop := ∃ x : PtV, v = .tuple #[.agg (cA x), .bool h] ∧ ptOk P x w
def isBx (P : Pt) (C : Array Value) (w : World) : Prop := ∃ x : PtV, C = cA x ∧ ptOk P x w
theorem own_bx {E : TypeId} {B : Nat} {W w w' : World} {a : Option Addr} {l : List UInt8} {c : Nat} {b : Boxes} (h : Cit.Own E B w a l c) (hG : bxG b W w w') (hne : ∀ j, j < b.nb → E ≠ b.ty j) : Cit.Own E B w' a l c := (vown_bx h.vown hG hne).own
theorem ptOk_bx {P : Pt} {x : PtV} {W w w' : World} {b : Boxes} (hne : ∀ j, j < b.nb → (5 : Nat) ≠ b.ty j) (hG : bxG b W w w') (h : ptOk P x w) : ptOk P x w' := ⟨h.1, own_bx h.2 hG hne⟩
theorem isPt_bx {P : Pt} {v : Value} {W w w' : World} {b : Boxes} (hne : ∀ j, j < b.nb → (5 : Nat) ≠ b.ty j) (hG : bxG b W w w') : isPt P v w → isPt P v w' := fun ⟨x, e, h⟩ => ⟨x, e, ptOk_bx hne hG h⟩
theorem isTup_bx {P : Pt} {k : Bool} {v : Value} {W w w' : World} {b : Boxes} (hne : ∀ j, j < b.nb → (5 : Nat) ≠ b.ty j) (hG : bxG b W w w') : isTup P k v w → isTup P k v w' := fun ⟨x, e, h⟩ => ⟨x, e, ptOk_bx hne hG h⟩
theorem isBx_bx {P : Pt} {C : Array Value} {W w w' : World} {b : Boxes} (hne : ∀ j, j < b.nb → (5 : Nat) ≠ b.ty j) (hG : bxG b W w w') : isBx P C w → isBx P C w' := fun ⟨x, e, h⟩ => ⟨x, e, ptOk_bx hne hG h⟩
theorem ptOk.stay {P : Pt} {x : PtV} {w w' : World} (h : ptOk P x w) (hb : Below w.heap.size w w') : ptOk P x w' := ⟨h.1, h.2.stay hb⟩
theorem gp_extract {P : Program} {w : World} {o : Oper} {ρ : Operand → Value} {post : Value → World → Prop} {x : Operand} {k : Nat} (h : o.op = .extract x k) {vs : Array Value} {v : Value} (hx : ρ x = .tuple vs) (hv : vs[k]? = some v) (hp : post v w) : GivesP P post ((execOp ρ o).run P w) := by
  refine gp_run (v := v) (w' := w) ?_ hp
  unfold execOp; rw [h]; dsimp only; rw [hx]; simp [go_sem, hv]
theorem allocP (ρ : Operand → Value) (o : Oper) (w : World) (h : o.op = .alloc 43) : (execOp ρ o).run Try.prog w = .ok (.value (.pointer (some ⟨w.heap.size, 0, none⟩))) (w.alloc (.cells #[.int .i64 0, .int .i64 0, .int .i64 0, .bool false, .slice none 0 0] 43)) := by
  unfold execOp; rw [h]; kernel_rfl
theorem storeP (ρ : Operand → Value) (o : Oper) (wx : World) (p s : Operand) (h : o.op = .store 43 p s) {x : PtV} {g : Nat} {D : Array Value} (hg : ρ p = .pointer (some ⟨g, 0, none⟩)) (hs : ρ s = .agg (cA x))
    (hD : wx.heap[g]? = some (.cells D 43 (0, 0))) (hDs : D.size = (cA x).size) :
    ∃ w', (execOp ρ o).run Try.prog wx = .ok .skip w' ∧ w'.heap[g]? = some (.cells (cA x) 43 (0, 0)) ∧ Save (· ≠ g) wx w' := by
  have hr := run_storeVar_row (P := Try.prog) wx g 43 43 D (cA x) hD (by kernel_rfl) hDs (by simp [Value.oneCell'])
  refine ⟨wx.setRow g (cA x), ?_, setRow_same hD, setRow_save _ _ _⟩
  unfold execOp
  simp only [h, hg, hs, Sem.run_bind, Instr.storeAt, Instr.sureAddr, Sem.run_pure, Result.andThen, hr]
theorem part_tup (w : World) (V : CfgV) (h : V.At w) (hs : SmallV V) (id : Int) {P : Pt} {k : Bool} (hP : getP V.ps id = P) (hk : hasP V.ps id = k) : Calls Try.prog 31 #[.agg #[.slice V.wa V.ws.length V.wc, .slice V.pa V.ps.length V.pc, .slice V.ca V.cs.length V.cc], .int .i64 id] w fun e w' =>
    ∃ v, e = .returned v ∧ Below w.heap.size w w' ∧ isTup P k v w' :=
  (part_get w V h hs id).mono fun e w' ⟨x, he, hp, ho, hb⟩ => ⟨_, he, hb, x, by rw [hk], by rw [← hP]; exact hp, ho.low (Nat.zero_le _)⟩
end Go.Proofs.Ytpnbaapjjchlbaa
