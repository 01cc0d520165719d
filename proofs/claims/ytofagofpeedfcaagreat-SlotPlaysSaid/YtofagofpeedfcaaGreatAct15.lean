/- Chapter 15's acts: opened, indexed; Great: walked. -/
import Derived.Test.YtofagofpeedfcaaGreatSlot8
import Derived.Test.YtofagofpeedfcaaGreatAct6
namespace Go.Proofs.YtofagofpeedfcaaGreat
open Go Go.RowKit Go.Cit

structure Ax where
  kind : Int
  slot : Int
  at_ : Int
  a : Option Addr
  l : List UInt8
  c : Nat
  odd : Bool
abbrev Ax.cs (x : Ax) : List Value := [.int .i64 x.kind, .int .i64 x.slot, .int .i64 x.at_, .slice x.a x.l.length x.c, .bool x.odd]
structure Ax.At (x : Ax) (w : World) : Prop where
  row : Row w x.a x.l x.c
  hk : -9223372036854775808 ≤ x.kind ∧ x.kind ≤ 9223372036854775807
  hs : -9223372036854775808 ≤ x.slot ∧ x.slot ≤ 9223372036854775807
  hn : -9223372036854775808 ≤ x.at_ ∧ x.at_ ≤ 9223372036854775807
  lr : x.l.length ≤ 140737488351232
theorem Ax.At.stay {x : Ax} {w w' : World} (h : x.At w) (hb : Below w.heap.size w w') : x.At w' := ⟨h.row.stay hb, h.hk, h.hs, h.hn, h.lr⟩
def shAx : Sh false := .st (.cons .i64 (.cons .i64 (.cons .i64 (.cons .bytes (.cons .bool .nil)))))
def toAx (d : shAx.D) : Ax := ⟨d.1, d.2.1, d.2.2.1, d.2.2.2.1.a, d.2.2.2.1.l, d.2.2.2.1.c, d.2.2.2.2.1⟩
theorem toAx_cs (d : shAx.D) : shAx.enc d = (toAx d).cs := by
  obtain ⟨k, s, n, ⟨a, c, l⟩, o, ⟨⟩⟩ := d
  rfl
theorem toAx_at {w : World} {d : shAx.D} (h : shAx.ok w d) : (toAx d).At w := by
  obtain ⟨k, s, n, ⟨a, c, l⟩, o, ⟨⟩⟩ := d
  obtain ⟨h1, h2, h3, h4, _⟩ := h
  exact ⟨h4.1, h1, h2, h3, Nat.le_trans h4.1.le h4.2⟩
/-- A slice of acts. -/
structure Axs (w : World) (a : Option Addr) (L : List Ax) (c : Nat) : Prop where
  vec : Vec Ax.cs 5 w a L c
  at_ : ∀ x ∈ L, x.At w
theorem Axs.stay {w w' : World} {a : Option Addr} {L : List Ax} {c : Nat} (h : Axs w a L c) (hb : Below w.heap.size w w') : Axs w' a L c := ⟨h.vec.stay (fun _ => rfl) hb, fun x hx => (h.at_ x hx).stay hb⟩
theorem axs_of {w : World} {d : Sl shAx.D} (h : (Sh.slice shAx).ok w d) : Axs w d.a (d.l.map toAx) d.c := by
  obtain ⟨h1, h2, h3, h4, h5⟩ := h
  refine ⟨⟨by rw [List.length_map]; exact h1, by unfold maxLen; omega, h3, fun hne => h4 (by simpa using hne), fun i hi j hj => ?_⟩, fun x hx => ?_⟩
  · rw [List.length_map] at hi
    have := (h5 i hi).1 j hj
    rw [List.getElem_map, ← toAx_cs]; exact this
  · obtain ⟨d', hd, rfl⟩ := List.mem_map.1 hx
    obtain ⟨i, hi, rfl⟩ := List.mem_iff_getElem.1 hd
    exact toAx_at (h5 i hi).2
theorem etAx : ElemType Tryz.prog 22 33 5 (((Tryz.prog.info? 33).map (·.bytes)).getD 0) (.agg #[.int .i64 0, .int .i64 0, .int .i64 0, .slice none 0 0, .bool false]) := ⟨Tryz.underlying22, by kernel_rfl, fun w => by kernel_rfl, rfl, by decide, by decide +kernel⟩
theorem Axs.cells {w : World} {a : Option Addr} {L : List Ax} {c : Nat} (h : Axs w a L c) (i : Nat) (hi : i < L.length) :
    w.cell? (ad a (i * 5)) = some (.int .i64 L[i].kind) ∧ w.cell? ⟨(ad a (i * 5)).block, (ad a (i * 5)).off + 1, none⟩ = some (.int .i64 L[i].slot) ∧ w.cell? ⟨(ad a (i * 5)).block, (ad a (i * 5)).off + 2, none⟩ = some (.int .i64 L[i].at_) ∧ w.cell? ⟨(ad a (i * 5)).block, (ad a (i * 5)).off + 3, none⟩ = some (.slice L[i].a L[i].l.length L[i].c) ∧ w.cell? ⟨(ad a (i * 5)).block, (ad a (i * 5)).off + 4, none⟩ = some (.bool L[i].odd) := by
  obtain ⟨b, off, rfl⟩ := h.vec.spot (by intro h0; simp [h0] at hi)
  exact ⟨h.vec.cell i hi 0 (by decide), h.vec.cell i hi 1 (by decide), h.vec.cell i hi 2 (by decide), h.vec.cell i hi 3 (by decide), h.vec.cell i hi 4 (by decide)⟩
theorem Axs.load {w : World} {a : Option Addr} {L : List Ax} {c : Nat} (h : Axs w a L c) (i : Nat) (hi : i < L.length) :
    (loadVar 33 (ad a (i * 5))).run Tryz.prog w = .ok (.agg L[i].cs.toArray) w := by
  obtain ⟨b, off, rfl⟩ := h.vec.spot (by intro h0; simp [h0] at hi)
  refine run_loadVar_mid w b (off + i * 5) 33 L[i].cs _ (fun j v hv => ?_) Tryz.underlying33 rfl (by kernel_rfl)
  have hj : j < 5 := (List.getElem?_eq_some_iff.1 hv).1
  rw [← hv, ← h.vec.cell i hi j hj, Nat.add_assoc]; rfl
/-- What acts are worth. -/
def totX (L : List Ax) : Nat := (L.map fun x => x.l.length + 100).sum
theorem totX_take (L : List Ax) (k : Nat) (h : k < L.length) : totX (L.take (k + 1)) = totX (L.take k) + (L[k].l.length + 100) := by
  rw [totX, totX, List.take_succ_eq_append_getElem h, List.map_append, List.sum_append]; simp
theorem totX_le (L : List Ax) (k : Nat) : totX (L.take k) ≤ totX L := by
  have := congrArg totX (List.take_append_drop k L)
  simp only [totX, List.map_append, List.sum_append] at this ⊢
  omega
theorem totX_one (L : List Ax) (i : Nat) (h : i < L.length) : L[i].l.length ≤ totX L := by
  have h1 := totX_take L i h
  have h2 := totX_le L (i + 1)
  omega
set_option maxRecDepth 100000 in
theorem great15_calls (w : World) (a : Option Addr) (L : List Ax) (c : Nat) (h : Axs w a L c) :
    Calls Tryz.prog 4 #[.slice a L.length c] w fun e w' => e = .returned (.bool (decide (6000 < totX L))) ∧ w' = w := by
  have hlen := h.vec.len_le
  obtain ⟨R, HR⟩ : ∃ R, Hid (R = decide (6000 < totX L)) := ⟨_, rfl⟩
  rw [← HR.out]
  go_enter Tryz.func4, Tryz.ntmps4
  go_wp2_with fail
  go_loop [3, 4] (fun n i => ∃ (k m : Nat), Hid (m = totX (L.take k)) ∧ k ≤ L.length ∧ m ≤ 6000 ∧ n = .int .i64 m ∧ i = .int .i64 k) (fun _ i => L.length - (intOf i).toNat)
  case atStart => exact ⟨0, 0, rfl, Nat.zero_le _, by omega, rfl, rfl⟩
  case round =>
    obtain ⟨k, m, hm, hk, hm5, rfl, rfl⟩ := hrel
    by_cases hlt : k < L.length
    · have i0 := h.vec.index etAx k hlt
      have e4 := (h.cells k hlt).2.2.2.1
      have hl := (h.at_ _ (List.getElem_mem hlt)).lr
      have HS : Hid (m + (L[k].l.length + 100) = totX (L.take (k + 1))) := by rw [Hid, totX_take L k hlt, hm.out]
      have HL := Lib.hid (totX_le L (k + 1))
      generalize L[k].l.length = n at *
      by_cases hg : 6000 < m + n + 100
      · have t1 : ((6000 : Int) < (m : Int) + n + 100) := by omega
        go_wp2_with fail
        go_ret
        exact ⟨ret_bool (by have := HS.out; have := HL.out; rw [HR.out, eq_comm, decide_eq_true_eq]; omega), rfl⟩
      · have t1 : ¬ ((6000 : Int) < (m : Int) + n + 100) := by omega
        go_wp2_with fail
        go_round
        case rel => exact ⟨k + 1, m + (n + 100), HS.out, by omega, by omega, by congr 1 <;> omega, by go_num⟩
        case measure => simp [intOf]; omega
    · have hk2 : k = L.length := by omega
      have HM : Hid (m = totX L) := by rw [Hid, hm.out, hk2, List.take_length]
      clear hk2 hm
      go_wp2_with fail
      go_ret
      exact ⟨ret_bool (by have := HM.out; rw [HR.out, eq_comm, decide_eq_false_iff_not]; omega), rfl⟩
end Go.Proofs.YtofagofpeedfcaaGreat
