/- A slice of fields that came in: how it is opened, indexed, loaded; Great: its contract. -/
import Derived.Test.YtglmijcfdcajkaaWirePut
import Derived.Test.YtglmijcfdcajkaaSh
namespace Go.Proofs.Ytglmijcfdcajkaa
open Go Go.RowKit Go.Cit

/-- The shape of a field. -/
def shFl : Sh false := .st (.cons .i64 (.cons .u8 (.cons .i64 (.cons .bool (.cons .bytes (.cons (.arr 32 .u8) .nil))))))
def toFl (d : shFl.D) : Fl := ⟨d.1, d.2.1, d.2.2.1, d.2.2.2.1, d.2.2.2.2.1.a, d.2.2.2.2.1.l, d.2.2.2.2.1.c, d.2.2.2.2.2.1⟩
theorem toFl_cs (d : shFl.D) : shFl.enc d = (toFl d).cs := by
  obtain ⟨what, x, n, is, ⟨a, c, l⟩, t, ⟨⟩⟩ := d
  have : List.flatMap (Sh.enc .u8) t = t.map vb := by
    induction t with
    | nil => rfl
    | cons y t ih => rw [List.flatMap_cons, ih]; rfl
  show [Value.int .i64 what] ++ ([vb x] ++ ([.int .i64 n] ++ ([.bool is] ++ ([.slice a l.length c] ++ (List.flatMap (Sh.enc .u8) t ++ []))))) = _
  rw [this, List.append_nil]; rfl
theorem toFl_at {w : World} {d : shFl.D} (h : shFl.ok w d) : (toFl d).At w := by
  obtain ⟨what, x, n, is, ⟨a, c, l⟩, t, ⟨⟩⟩ := d
  obtain ⟨h1, _, h3, _, h5, h6, _⟩ := h
  exact ⟨h5.1, h6.1, h3, h1, Nat.le_trans h5.1.le h5.2⟩

/-- A slice of fields. -/
structure Flds (w : World) (a : Option Addr) (fs : List Fl) (cap : Nat) : Prop where
  le : fs.length ≤ cap
  top : cap ≤ maxLen
  spot : fs ≠ [] → ∃ b off, a = some ⟨b, off, none⟩
  cell : ∀ i (h : i < fs.length), ∀ j, j < 37 → w.cell? (ad a (i * 37 + j)) = fs[i].cs[j]?
  fld : ∀ i (h : i < fs.length), fs[i].At w

theorem flds_of {w : World} {d : Sl shFl.D} (h : (Sh.slice shFl).ok w d) : Flds w d.a (d.l.map toFl) d.c := by
  obtain ⟨h1, h2, h3, h4, h5⟩ := h
  refine ⟨by rw [List.length_map]; exact h1, by unfold maxLen; omega, fun hne => h4 (by simpa using hne), fun i hi j hj => ?_, fun i hi => ?_⟩
  · rw [List.length_map] at hi
    have := (h5 i hi).1 j hj
    rw [List.getElem_map, ← toFl_cs]; exact this
  · rw [List.length_map] at hi
    rw [List.getElem_map]; exact toFl_at (h5 i hi).2

theorem Flds.len_le {w a fs cap} (h : Flds w a fs cap) : fs.length ≤ 9223372036854775807 := by
  have h1 := h.le; have h2 := h.top; unfold maxLen at h2; omega
theorem Flds.lt {w a fs cap} (h : Flds w a fs cap) {i : Nat} (hi : i < fs.length) : (ad a (i * 37)).block < w.heap.size := by
  have hc := h.cell i hi 0 (by decide)
  have : fs[i].cs[0]? = some (.int .i64 fs[i].what) := rfl
  rw [this, Nat.add_zero] at hc
  exact World.block_lt_of_cell? w _ hc
theorem Flds.stay {w w' : World} {a fs cap} (h : Flds w a fs cap) (hb : Below w.heap.size w w') : Flds w' a fs cap := by
  refine ⟨h.le, h.top, h.spot, fun i hi j hj => ?_, fun i hi => (h.fld i hi).stay hb⟩
  rw [← h.cell i hi j hj]
  have := h.lt hi
  refine hb.cell ?_
  cases a with
  | none => exact this
  | some x => exact this

theorem sz37 : ∀ w, (sizeOf 31).run Try.prog w = .ok 37 w := by intro w; kernel_rfl
theorem Flds.index {w a fs cap} (h : Flds w a fs cap) (i : Nat) (hi : i < fs.length) :
    ∀ w, (Instr.indexAt 22 (.slice a fs.length cap) (.int .i64 (i : Int))).run Try.prog w = .ok (.pointer (some (ad a (i * 37)))) w := by
  intro w
  obtain ⟨b, off, rfl⟩ := h.spot (by intro h0; simp [h0] at hi)
  have hT : Try.prog.underlying 22 = some (.slice 31) := Try.underlying22
  have he : Try.prog.elem 22 = 31 := by simp [Program.elem, hT]
  rw [run_indexAt_slice w _ _ _ _ _ _ (by rw [he]; exact hT), if_pos (by omega), he, sz37]
  simp only [Result.andThen, ad, Addr.add]
  by_cases h0 : i = 0
  · subst h0; simp
  · have : i * 37 ≠ 0 := by omega
    simp [this]
theorem Flds.load {w a fs cap} (h : Flds w a fs cap) (i : Nat) (hi : i < fs.length) :
    (Instr.loadAt 31 (.pointer (some (ad a (i * 37))))).run Try.prog w = .ok (.agg fs[i].cs.toArray) w := by
  obtain ⟨b, off, rfl⟩ := h.spot (by intro h0; simp [h0] at hi)
  have hl := fl_len _ (h.fld i hi).t32
  refine run_loadAt_mid w b (off + i * 37) 31 fs[i].cs _ (fun j v hv => ?_) Try.underlying31 rfl ?_
  · have hj : j < 37 := by rw [← hl]; exact (List.getElem?_eq_some_iff.1 hv).1
    rw [← hv, ← h.cell i hi j hj, Nat.add_assoc]; rfl
  · rw [hl]; kernel_rfl

theorem Flds.field4 {w a fs cap} (h : Flds w a fs cap) (i : Nat) (hi : i < fs.length) :
    w.cell? ⟨(ad a (i * 37)).block, (ad a (i * 37)).off + 4, none⟩ = some (.slice fs[i].a fs[i].l.length fs[i].c) := by
  obtain ⟨b, off, rfl⟩ := h.spot (by intro h0; simp [h0] at hi)
  exact h.cell i hi 4 (by decide)

/-- What fields are worth. -/
def totN (fs : List Fl) : Nat := (fs.map fun f => 40 + f.l.length).sum
theorem totN_take (fs : List Fl) (k : Nat) (h : k < fs.length) : totN (fs.take (k + 1)) = totN (fs.take k) + (40 + fs[k].l.length) := by
  rw [totN, totN, List.take_succ_eq_append_getElem h, List.map_append, List.sum_append]; simp
theorem totN_le (fs : List Fl) (k : Nat) : totN (fs.take k) ≤ totN fs := by
  have := congrArg totN (List.take_append_drop k fs)
  simp only [totN, List.map_append, List.sum_append] at this ⊢
  omega
theorem totN_len (fs : List Fl) : fs.length ≤ totN fs := by
  induction fs with
  | nil => simp
  | cons f fs ih => simp only [totN, List.map_cons, List.sum_cons, List.length_cons] at ih ⊢; omega
theorem totN_one (fs : List Fl) (i : Nat) (h : i < fs.length) : fs[i].l.length ≤ totN fs := by
  have h1 := totN_take fs i h
  have h2 := totN_le fs (i + 1)
  omega

theorem great_calls (w : World) (a0 : Option Addr) (fs : List Fl) (c0 : Nat) (h0 : Flds w a0 fs c0) :
    Calls Try.prog 11 #[.slice a0 fs.length c0] w fun e w' => e = .returned (.bool (decide (5000 < totN fs))) ∧ w' = w := by
  have hlen := h0.len_le
  go_enter Try.func11, Try.ntmps11
  go_wp2_with fail
  go_loop [3, 4] (fun n i => ∃ (k m : Nat), Hid (m = totN (fs.take k)) ∧ k ≤ fs.length ∧ m ≤ 5000 ∧ n = .int .i64 m ∧ i = .int .i64 k) (fun _ i => fs.length - (intOf i).toNat)
  case atStart => exact ⟨0, 0, rfl, Nat.zero_le _, by omega, rfl, rfl⟩
  case round =>
    obtain ⟨k, m, hm, hk, hm5, rfl, rfl⟩ := hrel
    by_cases hlt : k < fs.length
    · have i0 := h0.index k hlt
      have e4 := h0.field4 k hlt
      have hl := (h0.fld k hlt).lr
      have HS : Hid (m + (40 + fs[k].l.length) = totN (fs.take (k + 1))) := by rw [Hid, totN_take fs k hlt, hm.out]
      have HL := Lib.hid (totN_le fs (k + 1))
      by_cases hg : 5000 < m + 40 + fs[k].l.length
      · go_wp2_with fail
        go_ret
        exact ⟨ret_bool (by have := HS.out; have := HL.out; rw [eq_comm, decide_eq_true_eq]; omega), rfl⟩
      · go_wp2_with fail
        go_round
        case rel => exact ⟨k + 1, m + (40 + fs[k].l.length), HS.out, by omega, by omega, by congr 1; omega, by go_num⟩
        case measure => simp [intOf]; omega
    · have hk2 : k = fs.length := by omega
      have HM : Hid (m = totN fs) := by rw [Hid, hm.out, hk2, List.take_length]
      clear hk2 hm
      go_wp2_with fail
      go_ret
      exact ⟨ret_bool (by have := HM.out; rw [eq_comm, decide_eq_false_iff_not]; omega), rfl⟩
end Go.Proofs.Ytglmijcfdcajkaa
