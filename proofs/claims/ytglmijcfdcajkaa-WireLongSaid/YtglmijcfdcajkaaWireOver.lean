/- wire.Writer's add where there is no room: contracts. -/
import Derived.Test.YtglmijcfdcajkaaWireDeaf
namespace Go.Proofs.Ytglmijcfdcajkaa
open Go Go.RowKit Go.Cit

theorem wadd_over {base w b a l c} (h : Wr base w b a l c 0) (g n : Nat) (vs : List Value) (ls : List (List UInt8)) (hP : Lib.PartsAt w ⟨g, 0, none⟩ vs ls) (hn : ls.length ≤ 10) (hroom : 65536 < l.length + roomB ls) :
    Calls Try.prog 79 #[.pointer (some ⟨b, 0, none⟩), .slice (some ⟨g, 0, none⟩) ls.length n] w fun e w' => e = .returned (.pointer (some ⟨b, 0, none⟩)) ∧ Wr base w' b a l c 3 ∧ Save (· ≠ b) w w' := by
  have c0 := h.c0
  have c2 := h.c2
  have hl0 := h.len
  have HR : Hid (∀ k, k ≤ ls.length → roomB (ls.take k) ≤ 700000) := by
    intro k hk
    have := roomB_le (ls.take k)
    rw [List.length_take] at this
    have h2 : min k ls.length ≤ 10 := by omega
    have h3 : min k ls.length * 65537 ≤ 10 * 65537 := Nat.mul_le_mul_right _ h2
    omega
  have HB := Lib.hid hroom
  clear hroom
  go_enter Try.func79, Try.ntmps79
  go_wp2_with fail
  refine (none_calls h).mono ?_
  rintro e w1 ⟨rfl, rfl⟩
  go_wp2_with fail
  go_loop [5, 7, 26] (fun room it i => ∃ k : Nat, Hid (k ≤ ls.length) ∧ i = .int .i64 k ∧ ∃ r : Nat, Hid (r = roomB (ls.take k)) ∧ room = .int .i64 (65536 - (l.length : Int) - (r : Int))) (fun _ _ i => ls.length - (intOf i).toNat)
  case atStart => exact ⟨0, Nat.zero_le _, rfl, 0, rfl, by simp⟩
  case round =>
    obtain ⟨k, hk, rfl, r, hr, rfl⟩ := hrel
    have hl := h.len
    have hr0 : r ≤ 700000 := by rw [hr.out]; exact HR.out k hk.out
    by_cases hlt : k < ls.length
    · obtain ⟨p, cp, l', hl', hcell, _, _⟩ := hP.get k hlt
      have hcell' : w.cell? ⟨g, k, none⟩ = some (.slice p l'.length cp) := by
        rw [← hcell]; unfold Addr.add; split <;> simp_all
      have hm : Hid (r + minB l' = roomB (ls.take (k + 1))) := by
        rw [Hid, roomB_take ls k hlt, ← hr.out]
        have : ls[k] = l' := by rw [List.getElem?_eq_getElem hlt] at hl'; exact Option.some.inj hl'
        rw [this]
      clear hl' hcell
      go_wp2_with fail
      go_round
      case rel => exact ⟨k + 1, hlt, by go_num, r + minB l', hm.out, by simp only [minB]; congr 1; omega⟩
      case measure => simp [intOf]; omega
    · have hk2 : ls.take k = ls := List.take_of_length_le (by omega)
      have h0 : 65536 < l.length + r := by rw [hr.out, hk2]; exact HB.out
      have f2 := h.fr 2
      go_wp2_with fail
      go_ret
      exact ⟨rfl, ⟨set2 (v := .int .i64 3) h.blk, h.own.save Save.set (fun g hg => by rintro rfl; exact h.ne hg), h.ge, h.len⟩, Save.set⟩

/-- What an addition without room leaves. -/
def Broke (base : Nat) (w : World) (b : Nat) (a : Option Addr) (l : List UInt8) (c : Nat) (e : Ending) (w' : World) : Prop :=
  e = .returned (.pointer (some ⟨b, 0, none⟩)) ∧ Wr base w' b a l c 3 ∧ Save (· ≠ b) w w'

theorem wbytes_over {base w b a l c} (h : Wr base w b a l c 0) {a1 : Option Addr} {m : List UInt8} {c1 : Nat} (r1 : Row w a1 m c1) (hroom : 65536 < l.length + 4 + minB m) :
    Calls Try.prog 47 #[.pointer (some ⟨b, 0, none⟩), .slice a1 m.length c1] w (Broke base w b a l c) := by
  have hq : IntKind.u32.wrap (m.length : Int) = ((wOfI m.length).toNat : Int) := by rw [wrap_u32_eq, wOfI_nat]
  go_enter Try.func47, Try.ntmps47
  go_wp2_with fail
  refine (toXn (rowB_length _ _) (put32_calls _ (wOfI m.length))).mono ?_
  rintro e w1 ⟨a2, X, c2, HX, rfl, hm1, hb1⟩
  have hX : Hid (X.length = 4) := by rw [Hid, HX.out, rowB_length]
  have hP := parts_new w1 [.slice a2 X.length c2, .slice a1 m.length c1] [X, m] 26 rfl (by
    intro i v l hv hl
    match i with
    | 0 => simp at hv hl; subst hv hl; exact holds_of_row hm1.row
    | 1 => simp at hv hl; subst hv hl; exact holds_of_row (r1.stay hb1)
    | i + 2 => simp at hv)
  have hb : Below w1.heap.size w1 (w1.alloc (.cells #[.slice a2 X.length c2, .slice a1 m.length c1] 26)) := (Below.refl _ _).alloc (Nat.le_refl _) _
  have hk := wadd_over ((h.stay hb1).stay hb) w1.heap.size 2 _ _ hP (by simp) (by
    have h4 : minB X = 4 := by unfold minB; have := hX.out; omega
    simp only [roomB, List.map_cons, List.map_nil, List.sum_cons, List.sum_nil, h4]; omega)
  go_wp2_with fail
  refine Calls.mono hk ?_
  rintro e w' ⟨rfl, hW, hS⟩
  go_wp2_with fail
  go_ret
  exact ⟨rfl, hW, (Save.of (hb1.trans (hb.mono hb1.size))).trans hS⟩

theorem ladd_over {base w b a l c} (f : Fl) (h : f.At w) (hk : f.what = 3) (hw : Wr base w b a l c 0) (hroom : 65536 < l.length + 4 + minB f.l) :
    Calls Try.prog 14 #[.pointer (some ⟨b, 0, none⟩), .agg f.cs.toArray] w (Broke base w b a l c) := by
  have hb0 : Below w.heap.size w (w.alloc (.cells f.cs.toArray 31)) := (Below.refl _ _).alloc (Nat.le_refl _) _
  have B := boxes_new w f 31
  have c0 := B.c0
  have c4 := B.c4
  simp only [Nat.zero_add] at c0 c4
  have r := h.row.stay hb0
  have W0 := hw.stay hb0
  have hc := wbytes_over W0 r hroom
  have HB := Lib.hid hb0
  have g : (f.what == 0) = false ∧ (f.what == 1) = false ∧ (f.what == 2) = false ∧ (f.what == 3) = true := by simp [hk]
  obtain ⟨g0, g1, g2, g3⟩ := g
  clear B hb0 hroom hk
  go_enter Try.func14, Try.ntmps14
  generalize f.cs.toArray = C at *
  go_wp2_with fail
  refine Calls.mono hc ?_
  rintro e w' ⟨rfl, hW, hS⟩
  go_wp2_with fail
  go_ret
  exact ⟨rfl, hW, (Save.of HB.out).trans hS⟩

theorem wbyte_over {base w b a l c} (h : Wr base w b a l c 0) (x : UInt8) (hroom : 65536 < l.length + 1) :
    Calls Try.prog 44 #[.pointer (some ⟨b, 0, none⟩), vb x] w (Broke base w b a l c) := by
  have hb : Below w.heap.size w (w.alloc (.cells #[vb x] 5)) := (Below.refl _ _).alloc (Nat.le_refl _) _
  have r1 : Row (w.alloc (.cells #[vb x] 5)) (some ⟨w.heap.size, 0, none⟩) [x] 1 := row_new w _ 5 (0, 0) [x] rfl (by simp)
  have hP := parts_new (w.alloc (.cells #[vb x] 5)) [.slice (some ⟨w.heap.size, 0, none⟩) 1 1] [[x]] 26 rfl (by
    intro i v l hv hl
    match i with
    | 0 => simp at hv hl; subst hv hl; exact holds_of_row r1
    | i + 1 => simp at hv)
  rw [show (w.alloc (.cells #[vb x] 5)).heap.size = w.heap.size + 1 by simp] at hP
  have hb2 : Below w.heap.size w ((w.alloc (.cells #[vb x] 5)).alloc (.cells #[.slice (some ⟨w.heap.size, 0, none⟩) 1 1] 26)) := hb.alloc (by simp) _
  have hk := wadd_over (h.stay hb2) (w.heap.size + 1) 1 _ _ hP (by simp) (by simp [roomB, minB]; omega)
  clear r1 hP
  go_enter Try.func44, Try.ntmps44
  go_wp2_with fail
  refine Calls.mono hk ?_
  rintro e w' ⟨rfl, hW, hS⟩
  go_wp2_with fail
  go_ret
  exact ⟨rfl, hW, (Save.of hb2).trans hS⟩

theorem ladd0_over {base w b a l c} (f : Fl) (_h : f.At w) (hk : f.what = 0) (hw : Wr base w b a l c 0) (hroom : 65536 < l.length + 1) :
    Calls Try.prog 14 #[.pointer (some ⟨b, 0, none⟩), .agg f.cs.toArray] w (Broke base w b a l c) := by
  have hb0 : Below w.heap.size w (w.alloc (.cells f.cs.toArray 31)) := (Below.refl _ _).alloc (Nat.le_refl _) _
  have B := boxes_new w f 31
  have c0 := B.c0
  have c1 := B.c1
  simp only [Nat.zero_add] at c0 c1
  have hc := wbyte_over (hw.stay hb0) f.x hroom
  have HB := Lib.hid hb0
  have g0 : (f.what == 0) = true := by simp [hk]
  clear B hb0 hroom hk
  go_enter Try.func14, Try.ntmps14
  generalize f.cs.toArray = C at *
  go_wp2_with fail
  refine Calls.mono hc ?_
  rintro e w' ⟨rfl, hW, hS⟩
  go_wp2_with fail
  go_ret
  exact ⟨rfl, hW, (Save.of HB.out).trans hS⟩
end Go.Proofs.Ytglmijcfdcajkaa
