/- hmac.Open's region that draws its order: what is said of it. -/
import Derived.Test.YtiemafgnpmoblaaRefHopen
import Derived.Test.YtiemafgnpmoblaaHmacAwake
import Derived.Laws.Cover3
namespace Go.Proofs.Ytiemafgnpmoblaa
open Go Go.RowKit Go.Cit

theorem load_tag (w : World) (b o : Nat) (t : List UInt8) (ht : t.length = 32) (hc : ∀ k (h : k < t.length), w.cell? ⟨b, o + k, none⟩ = some (vb t[k])) :
    (Instr.loadAt 36 (.pointer (some ⟨b, o, none⟩))).run Try.prog w = .ok (.agg (t.map vb).toArray) w := by
  refine run_loadAt_mid w b o 36 (t.map vb) _ (fun j v hv => ?_) Try.underlying36 rfl ?_
  · have hj : j < t.length := by have := (List.getElem?_eq_some_iff.1 hv).1; simpa using this
    rw [hc j hj]
    simpa [hj] using hv
  · rw [List.length_map, ht]; kernel_rfl
theorem load_tagR {w : World} {a : Option Addr} {t : List UInt8} {c : Nat} (r : Row w a t c) (ht : t.length = 32) :
    (Instr.loadAt 36 (.pointer a)).run Try.prog w = .ok (.agg (t.map vb).toArray) w := by
  obtain ⟨b, o, rfl⟩ := r.spot (by intro h0; simp [h0] at ht)
  exact load_tag w b o t ht (fun k hk => r.cell k hk)
theorem gp_len2 {w : World} {o : Oper} {ρ : Operand → Value} {post : Value → World → Prop} {ty : TypeId} {x : Operand} (h : o.op = .call { callee := .builtin .len, args := #[x], argTypes := #[ty] }) (hty : Try.prog.underlying ty = some (.slice (Try.prog.elem ty))) {a : Option Addr} {n c : Nat} (hx : ρ x = .slice a n c) (hp : post (.int .i64 n) w) : GivesP Try.prog post ((execOp ρ o).run Try.prog w) := by
  refine gp_run (v := .int .i64 n) (w' := w) ?_ hp
  unfold execOp; rw [h]; dsimp only; unfold resolve; dsimp only
  simp [hx, invoke, run_len_slice w ty o.type a n c hty, Result.andThen, go_sem, builtin]
theorem gp_s2a {w : World} {o : Oper} {ρ : Operand → Value} {post : Value → World → Prop} {x : Operand} (h : o.op = .sliceToArrayPointer 36 x) {a : Option Addr} {n c : Nat} (hx : ρ x = .slice a n c) (hn : 32 ≤ n) (hp : post (.pointer a) w) : GivesP Try.prog post ((execOp ρ o).run Try.prog w) := by
  refine gp_run (v := .pointer a) (w' := w) ?_ hp
  unfold execOp; rw [h]; dsimp only; rw [hx, Sem.run_bind, run_arrayAt w 36 _ 32 a n c Try.underlying36 hn]; rfl

def opnC (W : World) (D X : Array Value) (δ : Nat → Bool) (a : Act) (wx : World) : Prop :=
  Below W.heap.size W wx ∧ (δ 12 = true → ∃ g, a.eval (.tmp 7) = .pointer (some ⟨g, 0, none⟩) ∧ W.heap.size ≤ g ∧ wx.heap[g]? = some (.cells (if δ 14 then D else X) 36 (0, 0)))
theorem opnC_pure {W : World} {D X : Array Value} {δ : Nat → Bool} {a : Act} {wx : World} (h : opnC W D X δ a wx) {i d : Nat} {v : Value} (h12 : i ≠ 12) (h14 : i ≠ 14) (hd : d ≠ 7) :
    opnC W D X (upd δ i) (a.put (some d) v) wx := by
  obtain ⟨h1, h2⟩ := h
  refine ⟨h1, fun h => ?_⟩
  rw [upd_other δ h12] at h
  obtain ⟨g, e, hg, hc⟩ := h2 h
  refine ⟨g, (eval_put_ne _ _ _ _ (by simpa using hd)).trans e, hg, ?_⟩
  rw [upd_other δ h14]; exact hc
theorem opnC_a {W : World} {D X : Array Value} {δ : Nat → Bool} {a : Act} {wx : World} (h : opnC W D X δ a wx) (h14 : δ 14 = false) (h7 : 7 < a.tmps.size) :
    opnC W D X (upd δ 12) (a.put (some 7) (.pointer (some ⟨wx.heap.size, 0, none⟩))) (wx.alloc (.cells X 36)) := by
  obtain ⟨h1, h2⟩ := h
  have hs := h1.size
  refine ⟨h1.alloc hs _, fun _ => ⟨wx.heap.size, eval_put_same _ _ _ h7, hs, ?_⟩⟩
  rw [upd_other δ (by omega), h14]; exact heap_alloc_new wx _
theorem opnC_s {W : World} {D X : Array Value} {δ : Nat → Bool} {a : Act} {wx w' : World} (h : opnC W D X δ a wx) {v : Value} {g : Nat} (hg : a.eval (.tmp 7) = .pointer (some ⟨g, 0, none⟩)) (hge : W.heap.size ≤ g)
    (hb : w'.heap[g]? = some (.cells D 36 (0, 0))) (hs : Save (· ≠ g) wx w') : opnC W D X (upd δ 14) (a.put none v) w' := by
  obtain ⟨h1, h2⟩ := h
  refine ⟨⟨hs.os.trans h1.os, hs.tape.trans h1.tape, hs.output.trans h1.output, Nat.le_trans h1.size hs.size, fun k hk => ?_⟩, fun h => ⟨g, hg, hge, ?_⟩⟩
  · exact (hs.block k (Nat.lt_of_lt_of_le hk h1.size) (by omega)).trans (h1.block k hk)
  · rw [upd_same]; exact hb
def opnT (S M U : Value) (a4 : Option Addr) (L n : Nat) (D : Array Value) : Nat → Value → World → Prop
  | 11, v, _ => v = S
  | 12, v, _ => v = S
  | 16, v, _ => v = S
  | 17, v, _ => v = S
  | 13, v, _ => v = .int .i64 L
  | 18, v, _ => v = .int .i64 L
  | 14, v, _ => v = .int .i64 n
  | 19, v, _ => v = .int .i64 n
  | 15, v, _ => v = M
  | 6, v, _ => v = M
  | 20, v, _ => v = U
  | 21, v, _ => v = .pointer a4
  | 22, v, _ => v = .agg D
  | _, _, _ => True
theorem opnT_any {S M U : Value} {a4 : Option Addr} {L n : Nat} {D : Array Value} {d : Nat} {v : Value} {w w' : World} (h : opnT S M U a4 L n D d v w) : opnT S M U a4 L n D d v w' := by
  unfold opnT at *
  split at h <;> simp_all
end Go.Proofs.Ytiemafgnpmoblaa
