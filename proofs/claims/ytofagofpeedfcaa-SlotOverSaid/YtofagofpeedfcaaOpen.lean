/- An argument of any plain type, as a value, opened. No condition. -/
import Derived.Test.YtofagofpeedfcaaSh
namespace Go.Cit
open Go Go.RowKit Go.ChangeShapes Go.WideShapes Go.Deep

/-- The value. -/
def Sh.val : (s : Sh false) → s.D → Value
  | .i64, n => .int .i64 n
  | .u8, x => vb x
  | .u32, x => vw x
  | .u64, x => vq x
  | .bool, x => .bool x
  | .str, x => .string x
  | .bytes, d => .slice d.a d.l.length d.c
  | .slice _, d => .slice d.a d.l.length d.c
  | .arr n s, d => .agg (Sh.enc (.arr n s) d).toArray
  | .st f, d => .agg (f.enc d).toArray

section
variable {H : Type} {enc : TypeId × Value → H} {P : Program} {w : World} {base : Nat} {held : Bool}
theorem okWide_array' {n : Nat} {e : TypeId} {r : Reach} {b0 : Nat} {t : TypeId} {v : Value} (ht : P.underlying t = some (.array n e)) (h : Value.okWide P w r b0 t v) : ∃ cs, v = .agg cs := by
  simp only [Value.okWide, ht] at h
  obtain ⟨cs, h1, _⟩ := h
  exact ⟨cs, h1⟩

theorem open_val (s : Sh false) {r : Reach} {b0 : Nat} {t : TypeId} {v : Value} {d : DataW H} {p : List MemPlace} (hf : s.fits P t [] 0 = true) (hv : Value.okWide P w r b0 t v) (h : DataW.Trod enc P w base (fun _ => true) held t v d p) (hz : Fine P t d) :
    ∃ e : s.D, v = s.val e ∧ s.ok w e := by
  obtain ⟨fuel, h⟩ := h
  obtain ⟨e, he, hok⟩ := open_sh s t [] 0 fuel _ _ hf h hz
  refine ⟨e, ?_, hok⟩
  cases s with
  | i64 => obtain ⟨n, rfl⟩ := okWide_int (isInt_ hf) hv; simpa [Value.cells, Sh.enc, Sh.val] using he
  | u8 => obtain ⟨n, rfl⟩ := okWide_int (isInt_ hf) hv; simpa [Value.cells, Sh.enc, Sh.val] using he
  | u32 => obtain ⟨n, rfl⟩ := okWide_int (isInt_ hf) hv; simpa [Value.cells, Sh.enc, Sh.val] using he
  | u64 => obtain ⟨n, rfl⟩ := okWide_int (isInt_ hf) hv; simpa [Value.cells, Sh.enc, Sh.val] using he
  | bool => obtain ⟨n, rfl⟩ := okWide_bool (isBool_ hf) hv; simpa [Value.cells, Sh.enc, Sh.val] using he
  | str => obtain ⟨n, rfl⟩ := okWide_string (isStr_ hf) hv; simpa [Value.cells, Sh.enc, Sh.val] using he
  | bytes =>
    unfold Sh.fits at hf
    split at hf
    · rename_i q hq
      obtain ⟨a, len, cap, rfl⟩ := okWide_slice hq hv
      simpa [Value.cells, Sh.enc, Sh.val] using he
    · exact absurd hf (by decide)
  | slice s =>
    unfold Sh.fits at hf
    split at hf
    · rename_i q hq
      obtain ⟨a, len, cap, rfl⟩ := okWide_slice hq hv
      simpa [Value.cells, Sh.enc, Sh.val] using he
    · exact absurd hf (by decide)
  | arr n s =>
    unfold Sh.fits at hf
    split at hf
    · rename_i m q hq
      obtain ⟨cs, rfl⟩ := okWide_array' hq hv
      have : cs.toList = Sh.enc (.arr n s) e := he
      show Value.agg cs = .agg _
      rw [← this]
    · exact absurd hf (by decide)
  | st f =>
    unfold Sh.fits at hf
    split at hf
    · rename_i fs hq
      obtain ⟨cs, rfl, _⟩ := okWide_struct hq hv
      have : cs.toList = f.enc e := he
      show Value.agg cs = .agg _
      rw [← this]
    · exact absurd hf (by decide)

theorem fine_of {ts : List TypeId} {ds : List (DataW H)} (h : (DataW.weightsEach P ts ds).all (· ≤ reachBytes) = true) {j : Nat} {t : TypeId} {d : DataW H} (ht : ts[j]? = some t) (hd : ds[j]? = some d) : Fine P t d := by
  intro n hn
  have := List.all_eq_true.1 h n (DataW.weights_mem_each ht hd n hn)
  have h2 := of_decide_eq_true this
  unfold reachBytes at h2
  omega
end
theorem val_words (n : Nat) (l : List UInt32) : Sh.val (.arr n .u32) l = .agg (l.map vw).toArray := by
  show Value.agg (l.flatMap fun x => [vw x]).toArray = _
  congr 2
  induction l with
  | nil => rfl
  | cons x l ih => rw [List.flatMap_cons, ih]; rfl
theorem val_bytes (n : Nat) (l : List UInt8) : Sh.val (.arr n .u8) l = .agg (l.map vb).toArray := by
  show Value.agg (l.flatMap fun x => [vb x]).toArray = _
  congr 2
  induction l with
  | nil => rfl
  | cons x l ih => rw [List.flatMap_cons, ih]; rfl
end Go.Cit
