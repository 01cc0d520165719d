/- Texts of the proof, one behind the other: Cat, Same, WireAdd, WireFields, WireRead, WireGet, WireGet2, WordsOrd. No condition but those that each names. -/
import Derived.Test.YtpnbaapjjchlbaaShelf
import Derived.Test.YtpnbaapjjchlbaaGw
import Derived.Laws.IdiomStrings
import Derived.Lib.Bytealg
import Derived.Test.YtpnbaapjjchlbaaGe
import Derived.Deep.RegionHeld3
import Derived.Deep.DrawnRows
import Derived.Outline
import Derived.Deep.MidRow
import Derived.Lib.ConvBytes
import Derived.Test.YtpnbaapjjchlbaaGb
import Derived.Laws.EntriesVeiled
/- words.Cat (bytes.Join without a separator, by the shelf's contract), words.Same, words.Ahead: contracts. -/
namespace Go.Proofs.Ytpnbaapjjchlbaa
open Go Go.RowKit Go.Cit

theorem join_flat : ∀ ls : List (List UInt8), Lib.join ls [] = ls.flatten
  | [] => rfl
  | [x] => by simp [Lib.join_one]
  | x :: y :: ls => by
    have h := join_flat (y :: ls)
    simp only [Lib.join, List.intercalate] at h ⊢
    rw [List.intersperse_cons_cons]
    simp [h]
theorem lens_flat (ls : List (List UInt8)) : Lib.lens ls = ls.flatten.length := by
  simp [Lib.lens, List.length_flatten]

theorem holds_of_row {w a l cap} (h : Row w a l cap) : Lib.HoldsBytes w (.slice a l.length cap) l := by
  refine ⟨a, cap, rfl, fun hn => ?_, fun x hx i y hy => ?_⟩
  · rcases List.eq_nil_or_concat l with h0 | ⟨_, _, h0⟩
    · exact h0
    · obtain ⟨b, o, e⟩ := h.spot (by simp [h0])
      rw [hn] at e; simp at e
  · subst hx
    obtain ⟨hi, rfl⟩ := List.getElem?_eq_some_iff.1 hy
    obtain ⟨b, o, e⟩ := h.spot (by intro h0; simp [h0] at hi)
    injection e with e
    subst e
    have := h.cell i hi
    have ea : (⟨b, o, none⟩ : Addr).add i = ad (some ⟨b, o, none⟩) i := by unfold Addr.add ad; split <;> simp_all
    rw [ea]; exact this

theorem mine_of_fresh {B : Nat} {w : World} {v : Value} {l : List UInt8} (h : Lib.FreshBytes B w v l) : ∃ a c, v = .slice a l.length c ∧ Mine B w a l c := by
  obtain ⟨g, cap, zs, rfl, hB, hle, hm, hz, hr, hb, hc, hf⟩ := h
  refine ⟨_, _, rfl, ⟨hle, hm, fun h => by simp at h, fun _ => ⟨g, 0, rfl⟩, fun i hi => ?_⟩, fun k hk => ?_, fun i hi => ?_⟩
  · have h1 := hc i (by omega)
    simp only [ad, Nat.zero_add]
    rw [h1]
    have hzi : i < zs.length := by omega
    have hzr := hr zs[i] (List.getElem_mem hzi)
    have e : l[i] = UInt8.ofNat (zs[i]).toNat := by
      have hb' : l = Lib.bytesOf (zs.take l.length) := hb.symm
      have : l[i]? = (Lib.bytesOf (zs.take l.length))[i]? := by rw [← hb']
      simp only [Lib.bytesOf, List.getElem?_map, List.getElem?_take, if_pos hi, List.getElem?_eq_getElem hi, List.getElem?_eq_getElem hzi, Option.map_some, Option.some.injEq] at this
      exact this
    rw [e, List.getD, List.getElem?_eq_getElem hzi]
    simp only [Option.getD_some, vb]
    rw [UInt8.toNat_ofNat_of_lt' (by show _ < 256; omega)]
    congr 2; omega
  · simp [blk] at hk; omega
  · simp only [ad, Nat.zero_add]; exact hf i (by omega)

/-- bytes.Join of parts, no separator. -/
theorem join_calls (w : World) (b o c : Nat) (vs : List Value) (ls : List (List UInt8)) (hP : Lib.PartsAt w ⟨b, o, none⟩ vs ls) (hcap : ls.length ≤ c) (hl : ls.flatten.length ≤ 1000000000) (hn : ls.length ≤ 1000000000) :
    Calls Try.prog 171 #[.slice (some ⟨b, o, none⟩) ls.length c, .slice none 0 0] w fun e w' => ∃ a cp, e = .returned (.slice a ls.flatten.length cp) ∧ Mine w.heap.size w' a ls.flatten cp ∧ Below w.heap.size w w' := by
  match ls, hP, hcap, hl, hn with
  | [], hP, hcap, hl, hn =>
    refine (Try.bytes_Join_none _ c _ w).mono ?_
    rintro e w' ⟨rfl, rfl⟩
    exact ⟨_, _, rfl, ⟨⟨Nat.le_refl _, Nat.zero_le _, fun h => rfl, fun h => (h rfl).elim, fun i h => by simp at h⟩, fun g hg => by simp [blk] at hg; omega, fun i h => by simp at h⟩, (Below.refl _ _).alloc (Nat.le_refl _) _⟩
  | [l], hP, hcap, hl, hn =>
    obtain ⟨p, cap, l', hl', hcell, hnone, hby⟩ := hP.get 0 (by simp)
    simp only [List.getElem?_cons_zero, Option.some.injEq] at hl'
    subst hl'
    have hcell0 : w.cell? ⟨b, o, none⟩ = some (.slice p l.length cap) := by simpa [Addr.add] using hcell
    simp only [List.flatten_cons, List.flatten_nil, List.append_nil] at hl ⊢
    rcases Nat.eq_zero_or_pos l.length with h0 | h0
    · rw [h0] at hcell0
      refine (Try.bytes_Join_one_empty b o c p cap _ w hcell0).mono ?_
      rintro e w' ⟨rfl, rfl⟩
      obtain rfl : l = [] := List.eq_nil_of_length_eq_zero h0
      exact ⟨none, 0, rfl, Mine.nil _ _, Below.refl _ _⟩
    · obtain ⟨a0, rfl⟩ : ∃ a0, p = some a0 := by
        cases p with
        | none => have := hnone rfl; simp [this] at h0
        | some a0 => exact ⟨a0, rfl⟩
      refine (Try.bytes_Join_one b o c a0 cap l _ w hcell0 (hby a0 rfl) h0 (by omega)).mono ?_
      rintro e w' ⟨v', rfl, hf, hb⟩
      obtain ⟨a, cp, rfl, hm⟩ := mine_of_fresh hf
      exact ⟨a, cp, rfl, hm, hb⟩
  | x :: y :: ls, hP, hcap, hl, hn =>
    refine (Try.bytes_Join_many b o _ c vs (x :: y :: ls) (.slice none 0 0) [] w rfl (by simp) hP hcap (holds_of_row (Row.nil_ w)) (by omega) (by rw [lens_flat]; simp at hl ⊢; omega)).mono ?_
    rintro e w' ⟨v', rfl, hf, hb⟩
    rw [join_flat] at hf
    obtain ⟨a, cp, rfl, hm⟩ := mine_of_fresh hf
    exact ⟨a, cp, rfl, hm, hb⟩

theorem cat_calls (w : World) (b o c : Nat) (vs : List Value) (ls : List (List UInt8)) (hP : Lib.PartsAt w ⟨b, o, none⟩ vs ls) (hcap : ls.length ≤ c) (hl : ls.flatten.length ≤ 1000000000) (hn : ls.length ≤ 1000000000) :
    Calls Try.prog 144 #[.slice (some ⟨b, o, none⟩) ls.length c] w fun e w' => ∃ a cp, e = .returned (.slice a ls.flatten.length cp) ∧ Mine w.heap.size w' a ls.flatten cp ∧ Below w.heap.size w w' := by
  have hj := join_calls w b o c vs ls hP hcap hl hn
  obtain ⟨f, hf⟩ : ∃ f, ls.flatten = f := ⟨_, rfl⟩
  rw [hf] at hj ⊢
  clear hf hl hP hn
  go_enter Try.func144, Try.ntmps144
  go_wp2_with (go_at_call 171; refine hj.mono ?_; rintro e w' ⟨a, cp, rfl, hm, hb⟩)
  go_ret
  exact ⟨a, cp, rfl, hm, hb⟩

/-- The parts that a call lays in a new array. -/
theorem parts_new (W : World) (vs : List Value) (ls : List (List UInt8)) (t : TypeId) (hlen : vs.length = ls.length) (h : ∀ (i : Nat) v l, vs[i]? = some v → ls[i]? = some l → Lib.HoldsBytes W v l) :
    Lib.PartsAt (W.alloc (.cells vs.toArray t)) ⟨W.heap.size, 0, none⟩ vs ls := by
  refine ⟨hlen, fun i v hv => ?_, fun i v l hv hl => ?_⟩
  · have ea : (⟨W.heap.size, 0, none⟩ : Addr).add i = ⟨W.heap.size, i, none⟩ := by unfold Addr.add; split <;> simp_all
    rw [ea, World.cell?, heap_alloc_new]
    simpa using hv
  · obtain ⟨p, cap, e, h1, h2⟩ := h i v l hv hl
    refine ⟨p, cap, e, h1, fun a ha j x hx => ?_⟩
    have hc := h2 a ha j x hx
    have hlt := World.block_lt_of_cell? W _ hc
    rw [((Below.refl W.heap.size W).alloc (Nat.le_refl _) (.cells vs.toArray t)).cell hlt]
    exact hc

theorem cat1_calls (W : World) (t : TypeId) {a1 : Option Addr} {l1 : List UInt8} {c1 : Nat} (r1 : Row W a1 l1 c1) (hl : l1.length ≤ 1000000000) :
    Calls Try.prog 144 #[.slice (some ⟨W.heap.size, 0, none⟩) 1 1] (W.alloc (.cells #[.slice a1 l1.length c1] t)) fun e w' => ∃ a cp, e = .returned (.slice a l1.length cp) ∧ Mine W.heap.size w' a l1 cp ∧ Below W.heap.size W w' := by
  have hP := parts_new W [.slice a1 l1.length c1] [l1] t rfl (by
    intro i v l hv hl
    match i with
    | 0 => simp at hv hl; subst hv hl; exact holds_of_row r1
    | i + 1 => simp at hv)
  refine (cat_calls _ _ _ 1 _ _ hP (by simp) (by simpa using hl) (by simp)).mono ?_
  rintro e w' ⟨a, cp, rfl, hm, hb⟩
  simp only [List.flatten_cons, List.flatten_nil, List.append_nil] at hm ⊢
  exact ⟨a, cp, rfl, hm.low (by simp), ((Below.refl _ _).alloc (Nat.le_refl _) _).trans (hb.mono (by simp))⟩

theorem cat2_calls (W : World) (t : TypeId) {a1 a2 : Option Addr} {l1 l2 : List UInt8} {c1 c2 : Nat} (r1 : Row W a1 l1 c1) (r2 : Row W a2 l2 c2) (hl : l1.length ≤ 300000000) (hl2 : l2.length ≤ 300000000) :
    Calls Try.prog 144 #[.slice (some ⟨W.heap.size, 0, none⟩) 2 2] (W.alloc (.cells #[.slice a1 l1.length c1, .slice a2 l2.length c2] t)) fun e w' => ∃ a cp, e = .returned (.slice a (l1 ++ l2).length cp) ∧ Mine W.heap.size w' a (l1 ++ l2) cp ∧ Below W.heap.size W w' := by
  have hP := parts_new W [.slice a1 l1.length c1, .slice a2 l2.length c2] [l1, l2] t rfl (by
    intro i v l hv hl
    match i with
    | 0 => simp at hv hl; subst hv hl; exact holds_of_row r1
    | 1 => simp at hv hl; subst hv hl; exact holds_of_row r2
    | i + 2 => simp at hv)
  refine (cat_calls _ _ _ 2 _ _ hP (by simp) (by simp; omega) (by simp)).mono ?_
  rintro e w' ⟨a, cp, rfl, hm, hb⟩
  simp only [List.flatten_cons, List.flatten_nil, List.append_nil] at hm ⊢
  exact ⟨a, cp, rfl, hm.low (by simp), ((Below.refl _ _).alloc (Nat.le_refl _) _).trans (hb.mono (by simp))⟩

theorem cat3_calls (W : World) (t : TypeId) {a1 a2 a3 : Option Addr} {l1 l2 l3 : List UInt8} {c1 c2 c3 : Nat} (r1 : Row W a1 l1 c1) (r2 : Row W a2 l2 c2) (r3 : Row W a3 l3 c3) (hl : l1.length ≤ 300000000) (hl2 : l2.length ≤ 300000000) (hl3 : l3.length ≤ 300000000) :
    Calls Try.prog 144 #[.slice (some ⟨W.heap.size, 0, none⟩) 3 3] (W.alloc (.cells #[.slice a1 l1.length c1, .slice a2 l2.length c2, .slice a3 l3.length c3] t)) fun e w' => ∃ a cp, e = .returned (.slice a (l1 ++ (l2 ++ l3)).length cp) ∧ Mine W.heap.size w' a (l1 ++ (l2 ++ l3)) cp ∧ Below W.heap.size W w' := by
  have hP := parts_new W [.slice a1 l1.length c1, .slice a2 l2.length c2, .slice a3 l3.length c3] [l1, l2, l3] t rfl (by
    intro i v l hv hl
    match i with
    | 0 => simp at hv hl; subst hv hl; exact holds_of_row r1
    | 1 => simp at hv hl; subst hv hl; exact holds_of_row r2
    | 2 => simp at hv hl; subst hv hl; exact holds_of_row r3
    | i + 3 => simp at hv)
  refine (cat_calls _ _ _ 3 _ _ hP (by simp) (by simp; omega) (by simp)).mono ?_
  rintro e w' ⟨a, cp, rfl, hm, hb⟩
  simp only [List.flatten_cons, List.flatten_nil, List.append_nil] at hm ⊢
  exact ⟨a, cp, rfl, hm.low (by simp), ((Below.refl _ _).alloc (Nat.le_refl _) _).trans (hb.mono (by simp))⟩

theorem cat0_calls (w : World) :
    Calls Try.prog 144 #[.slice none 0 0] w fun e w' => ∃ a cp, e = .returned (.slice a 0 cp) ∧ Mine w.heap.size w' a [] cp ∧ Below w.heap.size w w' := by
  go_enter Try.func144, Try.ntmps144
  go_wp2_with (go_at_call 171; refine (Try.bytes_Join_none none 0 _ _).mono ?_; rintro e w' ⟨rfl, rfl⟩)
  go_ret
  exact ⟨_, _, rfl, ⟨⟨Nat.le_refl _, Nat.zero_le _, fun h => rfl, fun h => (h rfl).elim, fun i h => by simp at h⟩, fun g hg => by simp [blk] at hg; omega, fun i h => by simp at h⟩, (Below.refl _ _).alloc (Nat.le_refl _) _⟩
end Go.Proofs.Ytpnbaapjjchlbaa

/- words.Same, words.Ahead: contracts. -/
namespace Go.Proofs.Ytpnbaapjjchlbaa
open Go Go.RowKit Go.Cit

theorem cmp_ordB : ∀ a b : List UInt8, Lib.compareBytes a b = ordB a b
  | [], [] => rfl
  | [], _ :: _ => rfl
  | _ :: _, [] => rfl
  | x :: xs, y :: ys => by unfold Lib.compareBytes ordB; rw [cmp_ordB xs ys]

theorem row_string {w a l cap} (h : Row w a l cap) : (convert 41 9 (.slice a l.length cap)).run Try.prog w = .ok (.string ⟨l.toArray⟩) w := by
  have he : Try.prog.underlying 5 = some (.int .u8) := Try.underlying5
  rcases Nat.eq_zero_or_pos l.length with h0 | h0
  · obtain rfl : l = [] := List.eq_nil_of_length_eq_zero h0
    cases a with
    | none =>
      rw [run_convert_bytes_string w _ _ 5 none _ cap bt.slice he Try.underlying9]
      simp [Conv.bytesToString, Sem.run_pure]; rfl
    | some x =>
      exact run_convert_bytes_back w _ _ 5 x cap [] bt.slice he Try.underlying9 (fun j hj => by simp at hj)
  · obtain ⟨b, o, rfl⟩ := h.spot (by intro h1; simp [h1] at h0)
    refine run_convert_bytes_back w _ _ 5 ⟨b, o, none⟩ cap l bt.slice he Try.underlying9 (fun j hj => ?_)
    have ea : (⟨b, o, none⟩ : Addr).add j = ad (some ⟨b, o, none⟩) j := by unfold Addr.add ad; split <;> simp_all
    rw [ea]; exact h.cell j hj

theorem loadBytes_row {P : Program} {w : World} (b : Nat) : ∀ (l : List UInt8) (off : Nat) (acc : ByteArray), (∀ i (h : i < l.length), w.cell? ⟨b, off + i, none⟩ = some (vb l[i])) →
    (Extern.Bytes.loadBytes ⟨b, off, none⟩ l.length acc).run P w = .ok ⟨acc.data ++ l.toArray⟩ w
  | [], off, acc, _ => by simp [Extern.Bytes.loadBytes, Sem.run_pure]
  | x :: l, off, acc, h => by
    have h0 : w.cell? ⟨b, off, none⟩ = some (vb x) := h 0 (by simp)
    have hl : (load ⟨b, off, none⟩).run P w = .ok (vb x) w := by simp [go_sem, h0]
    have ih := loadBytes_row (P := P) (w := w) b l (off + 1) (acc.push x) (fun i hi => by have := h (i + 1) (by simpa using hi); simpa [Nat.add_assoc, Nat.add_comm 1 i] using this)
    simp only [List.length_cons, Extern.Bytes.loadBytes, Sem.run_bind, hl, Result.andThen]
    have ea : (⟨b, off, none⟩ : Addr).add 1 = ⟨b, off + 1, none⟩ := rfl
    have ex : (x.toNat : Int).toNat.toUInt8 = x := by simp
    rw [ea, ex, ih]
    congr 2
    simp [ByteArray.push]

theorem row_bytesOf {P : Program} {w a l cap} (h : Row w a l cap) : (Extern.Bytes.bytesOf (.slice a l.length cap)).run P w = .ok ⟨l.toArray⟩ w := by
  cases a with
  | none =>
    have : l = [] := by
      rcases List.eq_nil_or_concat l with h0 | ⟨_, _, h0⟩
      · exact h0
      · obtain ⟨b, o, e⟩ := h.spot (by simp [h0]); simp at e
    subst this
    simp [Extern.Bytes.bytesOf, Sem.run_pure]; rfl
  | some x =>
    rcases Nat.eq_zero_or_pos l.length with h0 | h0
    · obtain rfl : l = [] := List.eq_nil_of_length_eq_zero h0
      simp [Extern.Bytes.bytesOf, Extern.Bytes.loadBytes, Sem.run_pure]; rfl
    · obtain ⟨b, o, e⟩ := h.spot (by intro h1; simp [h1] at h0)
      injection e with e
      subst e
      have := loadBytes_row (P := P) b l o .empty (fun i hi => by simpa [ad] using h.cell i hi)
      simp only [Extern.Bytes.bytesOf]
      rw [this]
      congr 2
      simp

-- (this seat's program does not call bytes.Compare)
end Go.Proofs.Ytpnbaapjjchlbaa

/- wire.NewWriter, none, add, Done: contracts, of a writer that was made. -/
namespace Go.Proofs.Ytpnbaapjjchlbaa
open Go Go.RowKit Go.Cit
attribute [local go_sem ↓] Go.wp_at_zero Go.wp_at_succ

/-- A writer lies in block b: its form l, its error e. -/
structure Wr (base : Nat) (w : World) (b : Nat) (a : Option Addr) (l : List UInt8) (c : Nat) (e : Int) : Prop where
  blk : w.heap[b]? = some (.cells #[.slice a l.length c, .bool true, .int .i64 e] 148 (0, 0))
  own : Own 5 base w a l c
  ge : base ≤ b
  len : l.length ≤ 65536

theorem Wr.lt {base w b a l c e} (h : Wr base w b a l c e) : b < w.heap.size := (Array.getElem?_eq_some_iff.1 h.blk).1
theorem Wr.c0 {base w b a l c e} (h : Wr base w b a l c e) : w.cell? ⟨b, 0, none⟩ = some (.slice a l.length c) := by rw [World.cell?, h.blk]; rfl
theorem Wr.c1 {base w b a l c e} (h : Wr base w b a l c e) : w.cell? ⟨b, 1, none⟩ = some (.bool true) := by rw [World.cell?, h.blk]; rfl
theorem Wr.c2 {base w b a l c e} (h : Wr base w b a l c e) : w.cell? ⟨b, 2, none⟩ = some (.int .i64 e) := by rw [World.cell?, h.blk]; rfl
theorem Wr.fr {base w b a l c e} (h : Wr base w b a l c e) (i : Nat) : w.frozen? ⟨b, i, none⟩ = false := by simp [World.frozen?, h.blk]
/-- The form's block is another one. -/
theorem Wr.ne {base w b a l c e} (h : Wr base w b a l c e) : Go.Cit.blk a ≠ some b := by
  intro hb
  rcases h.own.form with ⟨rfl, _, _⟩ | ⟨g, cur, rfl, _, hg, _⟩
  · simp [Go.Cit.blk] at hb
  · simp only [Go.Cit.blk, Option.map_some, Option.some.injEq] at hb
    subst hb
    rw [h.blk] at hg
    simp at hg
theorem Wr.save {S : Nat → Prop} {base w w' b a l c e} (h : Wr base w b a l c e) (hs : Save S w w') (hb : S b) (ha : ∀ g, Go.Cit.blk a = some g → S g) : Wr base w' b a l c e :=
  ⟨by rw [hs.block b h.lt hb]; exact h.blk, h.own.save hs ha, h.ge, h.len⟩
theorem Wr.stay {base w w' b a l c e} (h : Wr base w b a l c e) (hs : Below w.heap.size w w') : Wr base w' b a l c e := h.save (Save.of (S := fun _ => True) hs) trivial (fun _ _ => trivial)
/-- The blocks that a writer doesn't have. -/
def Off (b : Nat) (a : Option Addr) (k : Nat) : Prop := k ≠ b ∧ some k ≠ Go.Cit.blk a

theorem wr_field0 (b : Nat) (W : World) : (Instr.fieldAt 148 (.pointer (some ⟨b, 0, none⟩)) 0).run Try.prog W = .ok (.pointer (some ⟨b, 0, none⟩)) W := by kernel_rfl

theorem wr_field_run (b : Nat) (w : World) (ρ : Operand → Value) (x : Operand) (d : Option Tmp) (ty : TypeId) (ps : String) (gd : Option (Nat × Bool)) {af} (e : ρ x = .pointer (some ⟨b, 0, none⟩)) :
    (execOp ρ { dst := d, op := Op.fieldAddr 148 x 0, type := ty, pos := ps, after := af, guard := gd }).run Try.prog w = .ok (.value (.pointer (some ⟨b, 0, none⟩))) w := by
  unfold execOp
  dsimp only
  rw [e, Sem.run_bind, wr_field0]
  rfl

theorem newwriter_calls (w : World) :
    Calls Try.prog 88 #[] w fun e w' => e = .returned (.pointer (some ⟨w.heap.size, 0, none⟩)) ∧ Wr w.heap.size w' w.heap.size none [] 0 0 ∧ Below w.heap.size w w' := by
  go_enter Try.func88, Try.ntmps88
  go_wp2_with fail
  go_ret
  exact ⟨rfl, ⟨heap_alloc_new w _, Own.nil _ _ _, Nat.le_refl _, by simp⟩, (Below.refl _ _).alloc (Nat.le_refl _) _⟩

theorem none_calls {base w b a l c e} (h : Wr base w b a l c e) :
    Calls Try.prog 143 #[.pointer (some ⟨b, 0, none⟩)] w fun e w' => e = .returned (.bool false) ∧ w = w' := by
  have c1 := h.c1
  go_enter Try.func143, Try.ntmps143
  go_wp2_with fail
  go_ret
  exact ⟨rfl, rfl⟩

theorem done_calls {base w b a l c} (h : Wr base w b a l c 0) :
    Calls Try.prog 98 #[.pointer (some ⟨b, 0, none⟩)] w fun e w' => ∃ a' X cp, Hid (X = l) ∧ e = .returned (.tuple #[.slice a' X.length cp, .int .i64 0]) ∧ Mine w.heap.size w' a' X cp ∧ Below w.heap.size w w' := by
  have c0 := h.c0
  have c2 := h.c2
  have hl := h.len
  go_enter Try.func98, Try.ntmps98
  go_wp2_with fail
  refine (none_calls h).mono ?_
  rintro e w1 ⟨rfl, rfl⟩
  go_wp2_with fail
  refine (toX (cat1_calls _ _ h.own.isRow (by omega))).mono ?_
  rintro e w2 ⟨a2, X, c2', HX, rfl, hm2, hb2⟩
  go_wp2_with fail
  go_ret2
  exact ⟨a2, X, c2', HX, rfl, hm2, hb2⟩

theorem done_broken {base w b a l c e} (h : Wr base w b a l c e) (he : e ≠ 0) :
    Calls Try.prog 98 #[.pointer (some ⟨b, 0, none⟩)] w fun r w' => r = .returned (.tuple #[.slice none 0 0, .int .i64 e]) ∧ Drew w w' := by
  have c2 := h.c2
  have ge : (e != 0) = true := by simpa using he
  clear he
  go_enter Try.func98, Try.ntmps98
  go_wp2_with fail
  refine (none_calls h).mono ?_
  rintro e w1 ⟨rfl, rfl⟩
  go_wp2_with fail
  go_quiet (fail)
  go_wp2_with fail
  go_ret2
  exact ⟨rfl, ⟨_, rfl⟩⟩

/-- The parts that a call lays in a new array, each no longer than n. -/
def minB (l : List UInt8) : Nat := min l.length 65537
def roomB (ls : List (List UInt8)) : Nat := (ls.map minB).sum

theorem roomB_take (ls : List (List UInt8)) (k : Nat) (h : k < ls.length) : roomB (ls.take (k + 1)) = roomB (ls.take k) + minB ls[k] := by
  rw [roomB, roomB, List.take_succ_eq_append_getElem h, List.map_append, List.sum_append]; simp
theorem roomB_le : ∀ (ls : List (List UInt8)), roomB ls ≤ ls.length * 65537
  | [] => by simp [roomB]
  | x :: ls => by
    have := roomB_le ls
    simp only [roomB, List.map_cons, List.sum_cons, List.length_cons] at this ⊢
    have h : minB x ≤ 65537 := Nat.min_le_right _ _
    rw [Nat.succ_mul]; omega
theorem roomB_flat : ∀ (ls : List (List UInt8)), roomB ls ≤ ls.flatten.length ∧ (roomB ls ≤ 65536 → roomB ls = ls.flatten.length)
  | [] => by simp [roomB]
  | x :: ls => by
    obtain ⟨h1, h2⟩ := roomB_flat ls
    simp only [roomB, List.map_cons, List.sum_cons, List.flatten_cons, List.length_append] at h1 h2 ⊢
    have h3 : minB x ≤ x.length := Nat.min_le_left _ _
    have h4 : minB x ≤ 65536 → minB x = x.length := by unfold minB; omega
    constructor
    · omega
    · intro h; have := h2 (by omega); have := h4 (by omega); omega

/-- The last statement of add: what is said of its slots, of the world. -/
def addT (base : Nat) (w : World) (b : Nat) (a : Option Addr) (l F : List UInt8) (c g n m : Nat) : Nat → Value → World → Prop
  | 46, v, _ => v = .slice a l.length c
  | 47, v, _ => v = .slice (some ⟨g, 0, none⟩) m n
  | 48, v, wx => ∃ a2 c2, v = .slice a2 F.length c2 ∧ Mine w.heap.size wx a2 F c2
  | 49, v, wx => ∃ a3 c3, v = .slice a3 (l ++ F).length c3 ∧ Own 5 base wx a3 (l ++ F) c3 ∧ Near w.heap.size a a3
  | _, v, _ => v = .pointer (some ⟨b, 0, none⟩)
def addC (base : Nat) (w : World) (b : Nat) (a : Option Addr) (l F : List UInt8) (c : Nat) (δ : Nat → Bool) (wx : World) : Prop :=
  Save (Off b a) w wx ∧ (δ 6 = false → wx.heap = w.heap) ∧ (δ 7 = false → Own 5 base wx a l c) ∧ (δ 10 = false → wx.heap[b]? = w.heap[b]?) ∧
    (δ 10 = true → ∃ a3 c3, wx.heap[b]? = some (.cells #[.slice a3 (l ++ F).length c3, .bool true, .int .i64 0] 148 (0, 0)) ∧ Own 5 base wx a3 (l ++ F) c3 ∧ Near w.heap.size a a3)
def addG (b : Nat) (a : Option Addr) (i : Nat) (wx w' : World) : Prop := if i = 7 then Save (Off b a) wx w' else Save (· ≠ b) wx w'

theorem addC_pure {base w b a l F c δ wx} (i : Nat) (h : addC base w b a l F c δ wx) (h6 : i ≠ 6) (h7 : i ≠ 7) (h10 : i ≠ 10) : addC base w b a l F c (upd δ i) wx := by
  unfold addC at h ⊢
  rw [upd_other δ h6, upd_other δ h7, upd_other δ h10]; exact h
theorem addG_pure {b a} (i : Nat) (wx : World) : addG b a i wx wx := by unfold addG; split <;> exact Save.refl _ _
theorem own_ne {E base w a l cap b} {C : Array Value} {T : TypeId} {fr : Nat × Nat} (h : Own E base w a l cap) (hb : w.heap[b]? = some (.cells C T fr)) (hT : E ≠ T) : Go.Cit.blk a ≠ some b := by
  intro he
  rcases h.form with ⟨rfl, _, _⟩ | ⟨g, cur, rfl, _, hg, _⟩
  · simp [Go.Cit.blk] at he
  · simp only [Go.Cit.blk, Option.map_some, Option.some.injEq] at he
    subst he
    rw [hb] at hg
    injection hg with hg
    injection hg with h1 h2
    exact hT h2.symm
theorem parts_heap {w w' : World} {p : Addr} {vs : List Value} {ls : List (List UInt8)} (h : Lib.PartsAt w p vs ls) (hh : w'.heap = w.heap) : Lib.PartsAt w' p vs ls := by
  have hce : ∀ q, w'.cell? q = w.cell? q := fun q => by simp [World.cell?, hh]
  obtain ⟨x, y, z⟩ := h
  refine ⟨x, fun i v hv => (hce _).trans (y i v hv), fun i v l hv hl => ?_⟩
  obtain ⟨q, cap, e, h1, h2⟩ := z i v l hv hl
  exact ⟨q, cap, e, h1, fun a ha j x hx => (hce _).trans (h2 a ha j x hx)⟩
theorem addT_pure {base w b a l F c g n m d v wx w'} (h : addT base w b a l F c g n m d v wx) (h48 : d ≠ 48) (h49 : d ≠ 49) : addT base w b a l F c g n m d v w' := by
  unfold addT at h ⊢
  split <;> simp_all
theorem addT_stay {base w b a l F c g n m d v wx w' i e δ} (hw : Wr base w b a l c e) (hc : addC base w b a l F c δ wx) (hG : addG b a i wx w') (h : addT base w b a l F c g n m d v wx) (h7 : d = 49 → i ≠ 7) (h10 : d = 49 → δ 10 = false ∨ i ≠ 10) : addT base w b a l F c g n m d v w' := by
  by_cases h48 : d = 48
  · subst h48
    obtain ⟨a2, c2, hv, hm⟩ := h
    have ha : ∀ k, Go.Cit.blk a = some k → k < w.heap.size := fun k hk => (hw.own.blk_ge hk).2
    have hs : Save (Off b a) wx w' := by
      unfold addG at hG
      split at hG
      · exact hG
      · exact hG.less (fun k _ hk => hk.1)
    refine ⟨a2, c2, hv, hm.save hs (fun k hk => ?_)⟩
    have := hm.new k hk
    exact ⟨by have := hw.lt; omega, fun he => by have := ha k he.symm; omega⟩
  by_cases h49 : d = 49
  · subst h49
    obtain ⟨a3, c3, hv, ho, hn⟩ := h
    unfold addG at hG
    rw [if_neg (h7 rfl)] at hG
    refine ⟨a3, c3, hv, ho.save hG (fun k hk => ?_), hn⟩
    rintro rfl
    cases hd : δ 10
    · have := hc.2.2.2.1 hd
      exact own_ne ho (this.trans hw.blk) (by decide) hk
    · obtain ⟨_, _, hb, _⟩ := hc.2.2.2.2 hd
      exact own_ne ho hb (by decide) hk
  exact addT_pure h h48 h49

set_option maxRecDepth 100000 in
theorem wadd_calls {base w b a l c} (h : Wr base w b a l c 0) (g n : Nat) (vs : List Value) (ls : List (List UInt8)) (hP : Lib.PartsAt w ⟨g, 0, none⟩ vs ls) (hcap : ls.length ≤ n) (hn : ls.length ≤ 10) (hne : ls.flatten ≠ []) (hroom : l.length + ls.flatten.length ≤ 65536) (hbase : base ≤ w.heap.size) :
    Calls Try.prog 139 #[.pointer (some ⟨b, 0, none⟩), .slice (some ⟨g, 0, none⟩) ls.length n] w fun e w' => ∃ a' X c', Hid (X = l ++ ls.flatten) ∧ e = .returned (.pointer (some ⟨b, 0, none⟩)) ∧ Wr base w' b a' X c' 0 ∧ Save (Off b a) w w' ∧ Near w.heap.size a a' := by
  have c0 := h.c0
  have c2 := h.c2
  obtain ⟨F, HF⟩ : ∃ F, Hid (F = ls.flatten) := ⟨_, rfl⟩
  have hF1 : Hid (F ≠ []) := by rw [Hid, HF.out]; exact hne
  have hF2 : l.length + F.length ≤ 65536 := by rw [HF.out]; exact hroom
  have hPd : Lib.PartsAt w.drew ⟨g, 0, none⟩ vs ls := by obtain ⟨x, y, z⟩ := hP; exact ⟨x, y, z⟩
  have hcat := cat_calls w.drew g 0 n vs ls hPd hcap (by rw [← HF.out]; omega) (by omega)
  rw [← HF.out] at hcat
  have HR : Hid (∀ k, k ≤ ls.length → roomB (ls.take k) ≤ F.length) := by
    intro k hk
    rw [HF.out]
    refine Nat.le_trans (roomB_flat _).1 ?_
    have := congrArg (fun z => (List.flatten z).length) (List.take_append_drop k ls)
    simp only [List.flatten_append, List.length_append] at this
    omega
  clear hne hroom
  go_enter Try.func139, Try.ntmps139
  go_wp2_with fail
  refine (none_calls h).mono ?_
  rintro e w1 ⟨rfl, rfl⟩
  go_wp2_with fail
  go_loop [5, 7, 26] (fun room it i => ∃ k : Nat, Hid (k ≤ ls.length) ∧ i = .int .i64 k ∧ ∃ r : Nat, Hid (r = roomB (ls.take k)) ∧ room = .int .i64 (65536 - (l.length : Int) - (r : Int))) (fun _ _ i => ls.length - (intOf i).toNat)
  case atStart => exact ⟨0, Nat.zero_le _, rfl, 0, rfl, by simp⟩
  case round =>
    obtain ⟨k, hk, rfl, r, hr, rfl⟩ := hrel
    have hl := h.len
    have hr0 : r ≤ F.length := by rw [hr.out]; exact HR.out k hk.out
    by_cases hlt : k < ls.length
    · obtain ⟨p, cp, l', hl', hcell, _, _⟩ := hP.get k hlt
      have hcell' : w.cell? ⟨g, k, none⟩ = some (.slice p l'.length cp) := by
        rw [← hcell]; unfold Addr.add; split <;> simp_all
      have hm : Hid (r + minB l' = roomB (ls.take (k + 1))) := by
        rw [Hid, roomB_take ls k hlt, ← hr.out]
        have : ls[k] = l' := by rw [List.getElem?_eq_getElem hlt] at hl'; exact Option.some.inj hl'
        rw [this]
      clear hl' hcell
      go_wp2_with fail
      go_round
      case rel => exact ⟨k + 1, hlt, by go_num, r + minB l', hm.out, by simp only [minB]; congr 1; omega⟩
      case measure => simp [intOf]; omega
    · have hk2 : ls.take k = ls := List.take_of_length_le (by omega)
      have h0 : r ≤ 65536 - l.length := by omega
      have c0' : ∀ m, (w.drewN m).cell? ⟨b, 0, none⟩ = some (.slice a l.length c) := fun _ => c0
      go_wp2_with fail
      have hbk := h.blk
      have hF4 : F ≠ [] := hF1.out
      refine wp_region_ph (addC base w b a l F c) (addG b a) (addT base w b a l F c g n ls.length) (by kernel_rfl) (by kernel_rfl) ?_ ?_ ?_ ?_
      · intro w' hb hh
        exact ⟨Save.of hb, fun _ => hh, fun _ => h.own.stay hb, fun _ => by rw [hh], fun hx => absurd hx (by decide)⟩
      · intro δ i j o v wx w' ho hij _ hj hi hc hG hT
        rcases hd : o.dst with _ | d
        · exact tyP_none hd _ _
        · rw [tyP_some hd] at hT ⊢
          refine addT_stay h hc hG hT (fun h49 => ?_) (fun h49 => ?_)
          · subst h49
            have := only_spec (d := 49) (j := 7) (by kernel_rfl) ho hd
            omega
          · subst h49
            by_cases h10 : i = 10
            · subst h10; exact .inl hi
            · exact .inr h10
      · refine opsAll_cons ?_ (opsAll_cons ?_ (opsAll_cons ?_ (opsAll_cons ?_ (opsAll_cons ?_ (opsAll_cons ?_ (opsAll_cons ?_ (opsAll_cons ?_ (opsAll_cons ?_ (opsAll_cons ?_ (opsAll_cons ?_ opsAll_nil))))))))))
        all_goals intro δ wa wx hk
        · exact ⟨wanted_free rfl, gp_move (.tmp 0) rfl ⟨addG_pure _ wx, addC_pure _ hk.inv (by decide) (by decide) (by decide), hk.old 0 (by kernel_rfl)⟩⟩
        · exact ⟨wanted_free rfl, gp_move (.tmp 0) rfl ⟨addG_pure _ wx, addC_pure _ hk.inv (by decide) (by decide) (by decide), hk.old 0 (by kernel_rfl)⟩⟩
        · exact ⟨wanted_free rfl, gp_nil (.tmp 43) rfl (hk.slot 43 (by kernel_rfl)) ⟨addG_pure _ wx, addC_pure _ hk.inv (by decide) (by decide) (by decide), rfl⟩⟩
        · refine ⟨wanted_free rfl, ?_⟩
          have e44 : wa.eval (.tmp 44) = .pointer (some ⟨b, 0, none⟩) := hk.slot 44 (by kernel_rfl)
          rw [wr_field_run _ _ _ _ _ _ _ _ e44]
          exact ⟨addG_pure _ wx, addC_pure _ hk.inv (by decide) (by decide) (by decide), rfl⟩
        · have h10 := hk.closed.yet 11 10 4 (by kernel_rfl) hk.yet
          have hcell : wx.cell? ⟨b, 0, none⟩ = some (.slice a l.length c) := (World.cell?_of_block (a := ⟨b, 0, none⟩) (hk.inv.2.2.2.1 h10)).trans c0
          exact ⟨wanted_free rfl, gp_load (.tmp 45) rfl (hk.slot 45 (by kernel_rfl)) (by simp [go_sem, hcell]) ⟨addG_pure _ wx, addC_pure _ hk.inv (by decide) (by decide) (by decide), rfl⟩⟩
        · exact ⟨wanted_free rfl, gp_move (.tmp 1) rfl ⟨addG_pure _ wx, addC_pure _ hk.inv (by decide) (by decide) (by decide), hk.old 1 (by kernel_rfl)⟩⟩
        · have h7 := hk.closed.yet 11 7 6 (by kernel_rfl) hk.yet
          have h10 := hk.closed.yet 11 10 6 (by kernel_rfl) hk.yet
          obtain ⟨i1, i2, i3, i4, i5⟩ := hk.inv
          have hh := i2 hk.yet
          have hcat := cat_calls wx g 0 n vs ls (parts_heap hP hh) hcap (by rw [← HF.out]; omega) (by omega)
          rw [← HF.out] at hcat
          refine ⟨wanted_free rfl, gp_call rfl (hk.fn _) #[.slice (some ⟨g, 0, none⟩) ls.length n] (fun w => by kernel_rfl) (by simp [show wa.eval (.tmp 47) = _ from hk.slot 47 (by kernel_rfl)]) (hcat.mono ?_)⟩
          rintro e w' ⟨a2, c2', he, hm, hb⟩
          refine ⟨_, he, ?_, ⟨i1.trans (Save.of hb), fun hx => absurd hx (by rw [upd_same]; decide), fun _ => (i3 h7).stay hb, fun _ => (hb.block b (by rw [hh]; exact h.lt)).trans (i4 h10), fun hx => ?_⟩, a2, c2', rfl, ?_⟩
          · exact Save.of hb
          · rw [upd_other δ (by decide), h10] at hx; exact absurd hx (by decide)
          · rw [show wx.heap.size = w.heap.size by rw [hh]] at hm; exact hm
        · have h10 := hk.closed.yet 11 10 7 (by kernel_rfl) hk.yet
          obtain ⟨i1, i2, i3, i4, i5⟩ := hk.inv
          obtain ⟨a2, c2', hv2, hm2⟩ := hk.slot 48 (by kernel_rfl)
          refine ⟨wanted_free rfl, gp_append bt (.tmp 46) (.tmp 48) rfl (i3 hk.yet) hm2.row hF4 (by omega) (Nat.le_trans hbase i1.size) (hk.slot 46 (by kernel_rfl)) hv2 ?_⟩
          intro a3 c3 w' hown3 hgr3 hnear
          have hs3 : Save (Off b a) wx w' := (Save.grown hgr3).less (fun k _ hk => hk.2)
          have hb3 : w'.heap[b]? = wx.heap[b]? := hgr3.block b (Nat.lt_of_lt_of_le h.lt i1.size) (Ne.symm h.ne)
          refine ⟨hs3, ⟨i1.trans hs3, fun hx => ?_, fun hx => absurd hx (by rw [upd_same]; decide), fun _ => hb3.trans (i4 h10), fun hx => ?_⟩, a3, c3, rfl, hown3, fun k hk => ?_⟩
          · rw [hk.next.needs 11 7 6 (by kernel_rfl) (upd_same _ _)] at hx; exact absurd hx (by decide)
          · rw [upd_other δ (by decide), h10] at hx; exact absurd hx (by decide)
          · rcases hnear k hk with h1 | h1
            · exact .inl h1
            · exact .inr (Nat.le_trans i1.size h1)
        · exact ⟨wanted_free rfl, gp_nil (.tmp 42) rfl (hk.slot 42 (by kernel_rfl)) ⟨addG_pure _ wx, addC_pure _ hk.inv (by decide) (by decide) (by decide), rfl⟩⟩
        · refine ⟨wanted_free rfl, ?_⟩
          have e44 : wa.eval (.tmp 50) = .pointer (some ⟨b, 0, none⟩) := hk.slot 50 (by kernel_rfl)
          rw [wr_field_run _ _ _ _ _ _ _ _ e44]
          exact ⟨addG_pure _ wx, addC_pure _ hk.inv (by decide) (by decide) (by decide), rfl⟩
        · obtain ⟨i1, i2, i3, i4, i5⟩ := hk.inv
          obtain ⟨a3, c3, hv3, hown3, hn3⟩ := hk.slot 49 (by kernel_rfl)
          have hb := (i4 hk.yet).trans hbk
          have hcell : wx.cell? ⟨b, 0, none⟩ = some (.slice a l.length c) := by rw [World.cell?, hb]; rfl
          have hfr : wx.frozen? ⟨b, 0, none⟩ = false := by simp [World.frozen?, hb]
          refine ⟨wanted_free rfl, gp_store (.tmp 51) (.tmp 49) rfl (hk.slot 51 (by kernel_rfl)) hv3 (w' := wx.setCell ⟨b, 0, none⟩ (.slice a3 (l ++ F).length c3)) (by simp [go_sem, hcell, hfr]) ?_⟩
          have hs : Save (· ≠ b) wx (wx.setCell ⟨b, 0, none⟩ (.slice a3 (l ++ F).length c3)) := Save.set
          refine ⟨hs, ⟨i1.trans (hs.less fun k _ hk => hk.1), fun hx => ?_, fun hx => ?_, fun hx => absurd hx (by rw [upd_same]; decide), fun _ => ⟨a3, c3, ?_, ?_, hn3⟩⟩, tyP_none rfl _ _⟩
          · rw [hk.next.needs 11 10 6 (by kernel_rfl) (upd_same _ _)] at hx; exact absurd hx (by decide)
          · rw [hk.next.needs 11 10 7 (by kernel_rfl) (upd_same _ _)] at hx; exact absurd hx (by decide)
          · simp [World.setCell, Array.getElem?_modify, hb]
          · exact hown3.save hs (fun k hk hkb => own_ne hown3 hb (by decide) (hk.trans (by rw [hkb])))
      · intro δ wa wx hall hc hsame hT
        obtain ⟨a3, c3, hb3, hown3, hn3⟩ := hc.2.2.2.2 (hall 10 (by decide))
        have hS := hc.1
        obtain ⟨a2, c2', h48, _⟩ := hT 48 (by kernel_rfl)
        obtain ⟨a4, c4, h49, _⟩ := hT 49 (by kernel_rfl)
        have he := act_same hsame [42, 43, 44, 45, 46, 47, 48, 49, 50, 51] (by kernel_rfl)
        simp only [List.foldl_cons, List.foldl_nil] at he
        rw [show wa.eval (.tmp 42) = _ from hT 42 (by kernel_rfl), show wa.eval (.tmp 43) = _ from hT 43 (by kernel_rfl), show wa.eval (.tmp 44) = _ from hT 44 (by kernel_rfl), show wa.eval (.tmp 45) = _ from hT 45 (by kernel_rfl), show wa.eval (.tmp 46) = _ from hT 46 (by kernel_rfl), show wa.eval (.tmp 47) = _ from hT 47 (by kernel_rfl), h48, h49, show wa.eval (.tmp 50) = _ from hT 50 (by kernel_rfl), show wa.eval (.tmp 51) = _ from hT 51 (by kernel_rfl)] at he
        subst he
        clear hT hc hall hsame
        go_wp2_with fail
        go_ret
        exact ⟨a3, l ++ F, c3, by rw [Hid, HF.out], rfl, ⟨hb3, hown3, h.ge, by rw [List.length_append]; exact hF2⟩, hS, hn3⟩

end Go.Proofs.Ytpnbaapjjchlbaa

/- wire.Writer's Byte, Int, Flag, Bytes, Text, Tag: contracts, of a writer that was made and has room. -/
namespace Go.Proofs.Ytpnbaapjjchlbaa
open Go Go.RowKit Go.Cit

/-- What an addition to a writer leaves. -/
def Added (base : Nat) (w : World) (b : Nat) (a : Option Addr) (Y : List UInt8) (e : Ending) (w' : World) : Prop :=
  ∃ a' X c', Hid (X = Y) ∧ e = .returned (.pointer (some ⟨b, 0, none⟩)) ∧ Wr base w' b a' X c' 0 ∧ Save (Off b a) w w' ∧ Near w.heap.size a a'

theorem Added.from {base w0 w b a Y e w'} (hb : Below w0.heap.size w0 w) (h : Added base w b a Y e w') : Added base w0 b a Y e w' := by
  obtain ⟨a', X, c', h1, h2, h3, h4, h5⟩ := h
  exact ⟨a', X, c', h1, h2, h3, (Save.of hb).trans h4, fun g hg => (h5 g hg).imp id (fun h => Nat.le_trans hb.size h)⟩

theorem add1_calls {base w b a l c} (h : Wr base w b a l c 0) (hbase : base ≤ w.heap.size) (t : TypeId) {a1 : Option Addr} {m : List UInt8} {c1 : Nat} (r1 : Row w a1 m c1) (hne : m ≠ []) (hroom : l.length + m.length ≤ 65536) :
    Calls Try.prog 139 #[.pointer (some ⟨b, 0, none⟩), .slice (some ⟨w.heap.size, 0, none⟩) 1 1] (w.alloc (.cells #[.slice a1 m.length c1] t)) (Added base w b a (l ++ m)) := by
  have hP := parts_new w [.slice a1 m.length c1] [m] t rfl (by
    intro i v l hv hl
    match i with
    | 0 => simp at hv hl; subst hv hl; exact holds_of_row r1
    | i + 1 => simp at hv)
  have hb : Below w.heap.size w (w.alloc (.cells #[.slice a1 m.length c1] t)) := (Below.refl _ _).alloc (Nat.le_refl _) _
  have hk := wadd_calls (h.stay hb) w.heap.size 1 _ _ hP (by simp) (by simp) (by simpa using hne) (by simpa using hroom) (Nat.le_trans hbase hb.size)
  simp only [List.flatten_cons, List.flatten_nil, List.append_nil] at hk
  exact hk.mono fun e w' hh => Added.from hb hh

theorem add2_calls {base w b a l c} (h : Wr base w b a l c 0) (hbase : base ≤ w.heap.size) (t : TypeId) {a1 a2 : Option Addr} {m n : List UInt8} {c1 c2 : Nat} (r1 : Row w a1 m c1) (r2 : Row w a2 n c2) (hne : m ≠ []) (hroom : l.length + m.length + n.length ≤ 65536) :
    Calls Try.prog 139 #[.pointer (some ⟨b, 0, none⟩), .slice (some ⟨w.heap.size, 0, none⟩) 2 2] (w.alloc (.cells #[.slice a1 m.length c1, .slice a2 n.length c2] t)) (Added base w b a (l ++ (m ++ n))) := by
  have hP := parts_new w [.slice a1 m.length c1, .slice a2 n.length c2] [m, n] t rfl (by
    intro i v l hv hl
    match i with
    | 0 => simp at hv hl; subst hv hl; exact holds_of_row r1
    | 1 => simp at hv hl; subst hv hl; exact holds_of_row r2
    | i + 2 => simp at hv)
  have hb : Below w.heap.size w (w.alloc (.cells #[.slice a1 m.length c1, .slice a2 n.length c2] t)) := (Below.refl _ _).alloc (Nat.le_refl _) _
  have hk := wadd_calls (h.stay hb) w.heap.size 2 _ _ hP (by simp) (by simp) (by simp [hne]) (by simp; omega) (Nat.le_trans hbase hb.size)
  simp only [List.flatten_cons, List.flatten_nil, List.append_nil] at hk
  exact hk.mono fun e w' hh => Added.from hb hh

theorem wbyte_calls {base w b a l c} (h : Wr base w b a l c 0) (hbase : base ≤ w.heap.size) (x : UInt8) (hroom : l.length + 1 ≤ 65536) :
    Calls Try.prog 141 #[.pointer (some ⟨b, 0, none⟩), vb x] w (Added base w b a (l ++ [x])) := by
  have hb : Below w.heap.size w (w.alloc (.cells #[vb x] 5)) := (Below.refl _ _).alloc (Nat.le_refl _) _
  have hk := add1_calls (h.stay hb) (Nat.le_trans hbase hb.size) 41 (row_new w _ 5 (0, 0) [x] rfl (by simp)) (by simp) (by simpa using hroom)
  rw [show ([x] : List UInt8).length = 1 from rfl, show (w.alloc (.cells #[vb x] 5)).heap.size = w.heap.size + 1 by simp] at hk
  go_enter Try.func141, Try.ntmps141
  go_wp2_with fail
  refine Calls.mono hk ?_
  rintro e w' hh
  obtain ⟨a', X, c', h1, rfl, h3⟩ := Added.from hb hh
  go_wp2_with fail
  go_ret
  exact ⟨a', X, c', h1, rfl, h3⟩

theorem wint_calls {base w b a l c} (h : Wr base w b a l c 0) (hbase : base ≤ w.heap.size) (n : Int) (hroom : l.length + 8 ≤ 65536) :
    Calls Try.prog 91 #[.pointer (some ⟨b, 0, none⟩), .int .i64 n] w (Added base w b a (l ++ rowB (qOfI n) 8)) := by
  have hq : IntKind.u64.wrap n = ((qOfI n).toNat : Int) := by rw [wrap_u64_eq, qOfI_nat]
  go_enter Try.func91, Try.ntmps91
  go_wp2_with fail
  refine (toXn (rowB_length _ _) (put64_calls _ _)).mono ?_
  rintro e w1 ⟨a1, X, c1, HX, rfl, hm1, hb1⟩
  have hX : Hid (X.length = 8) := by rw [Hid, HX.out, rowB_length]
  have hk := add1_calls (h.stay hb1) (Nat.le_trans hbase hb1.size) 41 hm1.row (by intro h0; rw [h0] at hX; exact absurd hX.out (by decide)) (by rw [hX.out]; exact hroom)
  go_wp2_with fail
  refine Calls.mono hk ?_
  rintro e w' hh
  obtain ⟨a', Y, c', h1, rfl, h3⟩ := Added.from hb1 hh
  go_wp2_with fail
  go_ret
  exact ⟨a', Y, c', by rw [Hid, h1.out, HX.out], rfl, h3⟩

/-- A flag's byte. -/
def flagB (is : Bool) : List UInt8 := [if is then 1 else 0]
theorem wflag_calls {base w b a l c} (h : Wr base w b a l c 0) (hbase : base ≤ w.heap.size) (is : Bool) (hroom : l.length + 1 ≤ 65536) :
    Calls Try.prog 94 #[.pointer (some ⟨b, 0, none⟩), .bool is] w (Added base w b a (l ++ flagB is)) := by
  go_enter Try.func94, Try.ntmps94
  cases is
  · go_wp2_with fail
    have hk := wbyte_calls h hbase 0 hroom
    refine Calls.mono hk ?_
    rintro e w' ⟨a', X, c', h1, rfl, h3⟩
    go_wp2_with fail
    go_ret
    exact ⟨a', X, c', h1, rfl, h3⟩
  · go_wp2_with fail
    have hk := wbyte_calls h hbase 1 hroom
    refine Calls.mono hk ?_
    rintro e w' ⟨a', X, c', h1, rfl, h3⟩
    go_wp2_with fail
    go_ret
    exact ⟨a', X, c', h1, rfl, h3⟩

/-- Bytes behind their length. -/
def withB (m : List UInt8) : List UInt8 := rowB (qOfW (wOfI m.length)) 4 ++ m
theorem withB_length (m : List UInt8) : (withB m).length = m.length + 4 := by rw [withB, List.length_append, rowB_length, Nat.add_comm]

theorem wbytes_calls {base w b a l c} (h : Wr base w b a l c 0) (hbase : base ≤ w.heap.size) {a1 : Option Addr} {m : List UInt8} {c1 : Nat} (r1 : Row w a1 m c1) (hroom : l.length + 4 + m.length ≤ 65536) :
    Calls Try.prog 95 #[.pointer (some ⟨b, 0, none⟩), .slice a1 m.length c1] w (Added base w b a (l ++ withB m)) := by
  have hq : IntKind.u32.wrap (m.length : Int) = ((wOfI m.length).toNat : Int) := by rw [wrap_u32_eq, wOfI_nat]
  go_enter Try.func95, Try.ntmps95
  go_wp2_with fail
  refine (toXn (rowB_length _ _) (put32_calls _ (wOfI m.length))).mono ?_
  rintro e w1 ⟨a2, X, c2, HX, rfl, hm1, hb1⟩
  have hX : Hid (X.length = 4) := by rw [Hid, HX.out, rowB_length]
  have hk := add2_calls (h.stay hb1) (Nat.le_trans hbase hb1.size) 41 hm1.row (r1.stay hb1) (by intro h0; rw [h0] at hX; exact absurd hX.out (by decide)) (by rw [hX.out]; exact hroom)
  go_wp2_with fail
  refine Calls.mono hk ?_
  rintro e w' hh
  obtain ⟨a', Y, c', h1, rfl, h3⟩ := Added.from hb1 hh
  go_wp2_with fail
  go_ret
  exact ⟨a', Y, c', by rw [Hid, h1.out, HX.out]; rfl, rfl, h3⟩

/-- '[]byte(s)' of a string. -/
theorem string_bytes (w : World) (l : List UInt8) (hl : l.length ≤ 1000000000) : ∃ c w', (convert 9 41 (.string ⟨l.toArray⟩)).run Try.prog w = .ok (.slice (some ⟨w.heap.size, 0, none⟩) l.length c) w' ∧ Row w' (some ⟨w.heap.size, 0, none⟩) l c ∧ Below w.heap.size w w' := by
  have hr := Lib.run_convert_string_bytes (P := Try.prog) w 9 41 5 ⟨l.toArray⟩ Try.underlying9 Try.underlying41 Try.underlying5
  have hz : (⟨l.toArray⟩ : ByteArray).size = l.length := by simp [ByteArray.size]
  refine ⟨_, _, by rw [hz] at hr; exact hr, ⟨by rw [← hz]; exact grownCap_ge _ _ _ _, grownCap_le_maxLen _ _ _ _ (by unfold maxLen; omega), fun h => by simp at h, fun _ => ⟨_, _, rfl⟩, fun i hi => ?_⟩, ⟨?_, ?_, ?_, ?_, fun k hk => Lib.bytesWorld_at_old w _ _ k hk⟩⟩
  · simp only [ad, Nat.zero_add]
    rw [Lib.bytesWorld_cell w _ _ i (by rw [hz]; exact hi)]
    simp [List.getD, hi]
  · unfold Lib.bytesWorld World.freeze; split <;> rfl
  · unfold Lib.bytesWorld World.freeze; split <;> rfl
  · unfold Lib.bytesWorld World.freeze; split <;> rfl
  · rw [Lib.bytesWorld_size]; omega

end Go.Proofs.Ytpnbaapjjchlbaa

/- wire.NewReader, whole, breaks, take, Err, Left, End: contracts. -/
namespace Go.Proofs.Ytpnbaapjjchlbaa
open Go Go.RowKit Go.Cit

/-- A reader lies in block b: what stands in front, its error. -/
structure Rd (base top : Nat) (w : World) (b : Nat) (a : Option Addr) (l : List UInt8) (c : Nat) (e : Int) : Prop where
  blk : w.heap[b]? = some (.cells #[.slice a l.length c, .bool true, .int .i64 e] 158 (0, 0))
  row : Row w a l c
  ge : base ≤ b
  off : l ≠ [] → ∀ g, Go.Cit.blk a = some g → g ≠ b ∧ base ≤ g ∧ g < top
  len : l.length ≤ 65536

theorem Rd.lt {base top w b a l c e} (h : Rd base top w b a l c e) : b < w.heap.size := (Array.getElem?_eq_some_iff.1 h.blk).1
theorem Rd.c0 {base top w b a l c e} (h : Rd base top w b a l c e) : w.cell? ⟨b, 0, none⟩ = some (.slice a l.length c) := by rw [World.cell?, h.blk]; rfl
theorem Rd.c1 {base top w b a l c e} (h : Rd base top w b a l c e) : w.cell? ⟨b, 1, none⟩ = some (.bool true) := by rw [World.cell?, h.blk]; rfl
theorem Rd.c2 {base top w b a l c e} (h : Rd base top w b a l c e) : w.cell? ⟨b, 2, none⟩ = some (.int .i64 e) := by rw [World.cell?, h.blk]; rfl
theorem Rd.fr {base top w b a l c e} (h : Rd base top w b a l c e) (i : Nat) : w.frozen? ⟨b, i, none⟩ = false := by simp [World.frozen?, h.blk]
theorem Rd.save {S : Nat → Prop} {base top w w' b a l c e} (h : Rd base top w b a l c e) (hs : Save S w w') (hb : S b) (ha : l ≠ [] → ∀ g, Go.Cit.blk a = some g → S g) : Rd base top w' b a l c e :=
  ⟨by rw [hs.block b h.lt hb]; exact h.blk, h.row.save' hs ha, h.ge, h.off, h.len⟩
theorem Rd.stay {base top w w' b a l c e} (h : Rd base top w b a l c e) (hs : Below w.heap.size w w') : Rd base top w' b a l c e := h.save (Save.of (S := fun _ => True) hs) trivial (fun _ _ _ => trivial)

/-- What a reader is, by itself. -/
structure St where
  l : List UInt8
  e : Int
def St.broke : St := ⟨[], 50⟩
def St.next (s : St) (n : Nat) : Option (List UInt8) × St := if s.e ≠ 0 then (none, s) else if n ≤ s.l.length then (some (s.l.take n), ⟨s.l.drop n, 0⟩) else (none, St.broke)
def St.breaks (s : St) : St := if s.e = 0 then St.broke else s
/-- A reader in block b that is s. -/
def RdAt (base top : Nat) (w : World) (b : Nat) (s : St) : Prop := ∃ a c, Rd base top w b a s.l c s.e

theorem rwhole_calls {base top w b a l c e} (h : Rd base top w b a l c e) :
    Calls Try.prog 155 #[.pointer (some ⟨b, 0, none⟩)] w fun r w' => r = .returned (.bool (e == 0)) ∧ w = w' := by
  have c1 := h.c1
  have c2 := h.c2
  go_enter Try.func155, Try.ntmps155
  go_wp2_with fail
  go_ret
  exact ⟨rfl, rfl⟩

theorem set0 {w : World} {b : Nat} {x y z v : Value} {T : TypeId} {fr : Nat × Nat} (h : w.heap[b]? = some (.cells #[x, y, z] T fr)) : (w.setCell ⟨b, 0, none⟩ v).heap[b]? = some (.cells #[v, y, z] T fr) := by
  simp [World.setCell, Array.getElem?_modify, h]
theorem set2 {w : World} {b : Nat} {x y z v : Value} {T : TypeId} {fr : Nat × Nat} (h : w.heap[b]? = some (.cells #[x, y, z] T fr)) : (w.setCell ⟨b, 2, none⟩ v).heap[b]? = some (.cells #[x, y, v] T fr) := by
  simp [World.setCell, Array.getElem?_modify, h]

theorem breaks_calls {base top w b a l c e} (h : Rd base top w b a l c e) :
    Calls Try.prog 174 #[.pointer (some ⟨b, 0, none⟩)] w fun r w' => r = .returned (.tuple #[]) ∧ RdAt base top w' b (St.breaks ⟨l, e⟩) ∧ Save (· ≠ b) w w' := by
  have c0 := h.c0
  have c2 := h.c2
  have f0 := h.fr 0
  have f2 := h.fr 2
  go_enter Try.func174, Try.ntmps174
  go_wp2_with fail
  refine (rwhole_calls h).mono ?_
  rintro r w1 ⟨rfl, rfl⟩
  by_cases he : e = 0
  · have ge : (e == 0) = true := by rw [he]; rfl
    have HE : Hid (St.breaks ⟨l, e⟩ = St.broke) := by rw [Hid, St.breaks, if_pos he]
    clear he
    go_wp2_with fail
    go_end0
    refine ⟨rfl, ?_, Save.set.trans Save.set⟩
    rw [HE.out]
    exact ⟨none, 0, set2 (set0 h.blk), Row.nil_ _, h.ge, fun h => absurd rfl h, by simp [St.broke]⟩
  · have ge : (e == 0) = false := by simpa using he
    have HE : Hid (St.breaks ⟨l, e⟩ = ⟨l, e⟩) := by rw [Hid, St.breaks, if_neg he]
    clear he
    go_wp2_with fail
    go_end0
    refine ⟨rfl, ?_, Save.refl _ _⟩
    rw [HE.out]
    exact ⟨a, c, h⟩
theorem take_no {base top w b a l c e} (h : Rd base top w b a l c e) (n : Int) (hno : e = 0 → (l.length : Int) < n) :
    Calls Try.prog 173 #[.pointer (some ⟨b, 0, none⟩), .int .i64 n] w fun r w' => r = .returned (.tuple #[.slice none 0 0, .bool false]) ∧ RdAt base top w' b (St.breaks ⟨l, e⟩) ∧ Save (· ≠ b) w w' := by
  have c0 := h.c0
  go_enter Try.func173, Try.ntmps173
  go_wp2_with fail
  refine (rwhole_calls h).mono ?_
  rintro r w1 ⟨rfl, rfl⟩
  by_cases he : e = 0
  · have ge : (e == 0) = true := by rw [he]; rfl
    have hlt := hno he
    clear hno he
    go_wp2_with fail
    refine (breaks_calls h).mono ?_
    rintro r w2 ⟨rfl, hR, hS⟩
    go_wp2_with fail
    go_ret2
    exact ⟨rfl, hR, hS⟩
  · have ge : (e == 0) = false := by simpa using he
    clear hno he
    go_wp2_with fail
    refine (breaks_calls h).mono ?_
    rintro r w2 ⟨rfl, hR, hS⟩
    go_wp2_with fail
    go_ret2
    exact ⟨rfl, hR, hS⟩

theorem take_yes {base top w b a l c} (h : Rd base top w b a l c 0) (n : Nat) (hn : n ≤ l.length) :
    Calls Try.prog 173 #[.pointer (some ⟨b, 0, none⟩), .int .i64 n] w fun r w' => ∃ a' X c', Hid (X = l.take n) ∧ r = .returned (.tuple #[.slice a' X.length c', .bool true]) ∧ Row w' a' X c' ∧ RdAt base top w' b ⟨l.drop n, 0⟩ ∧ Save (· ≠ b) w w' := by
  have c0 := h.c0
  have f0 := h.fr 0
  obtain ⟨a1, X, c1, hX, hr1, r1, b1⟩ := h.row.upto2 bt.slice bt.sz n hn
  obtain ⟨a2, Y, c2, hY, hr2, r2, b2⟩ := h.row.from2 bt.slice bt.sz n hn
  have HX : Hid (X = l.take n) := hX
  have HY : Hid (Y = l.drop n) := hY
  have hYl : Y.length ≤ 65536 := by have := h.len; rw [hY, List.length_drop]; omega
  have HB1 := Lib.hid b1
  have HB2 := Lib.hid b2
  clear hX hY b1 b2
  go_enter Try.func173, Try.ntmps173
  go_wp2_with fail
  refine (rwhole_calls h).mono ?_
  rintro r w1 ⟨rfl, rfl⟩
  go_wp2_with fail
  go_ret2
  have hS : Save (· ≠ b) w (w.setCell ⟨b, 0, none⟩ (.slice a2 Y.length c2)) := Save.set
  have hne : ∀ {Z : List UInt8}, Z ≠ [] → (Z = l.take n ∨ Z = l.drop n) → l ≠ [] := by
    rintro Z hZ (rfl | rfl) h0
    · simp [h0] at hZ
    · simp [h0] at hZ
  refine ⟨a1, X, c1, HX, rfl, r1.save' hS (fun hX g hg => (h.off (hne hX (.inl HX.out)) g (by rw [← HB1.out]; exact hg)).1), ⟨a2, c2, ?_⟩, hS⟩
  have hk := set0 (v := .slice a2 Y.length c2) h.blk
  rw [← HY.out]
  exact ⟨hk, r2.save' hS (fun hY g hg => (h.off (hne hY (.inr HY.out)) g (by rw [← HB2.out]; exact hg)).1), h.ge, fun hY g hg => h.off (hne hY (.inr HY.out)) g (by rw [← HB2.out]; exact hg), hYl⟩

theorem rerr_calls {base top w b a l c e} (h : Rd base top w b a l c e) :
    Calls Try.prog 159 #[.pointer (some ⟨b, 0, none⟩)] w fun r w' => r = .returned (.int .i64 e) ∧ w = w' := by
  have c1 := h.c1
  have c2 := h.c2
  go_enter Try.func159, Try.ntmps159
  go_wp2_with fail
  go_ret
  exact ⟨rfl, rfl⟩

def St.left (s : St) : Nat := if s.e = 0 then s.l.length else 0
theorem rleft_calls {base top w b a l c e} (h : Rd base top w b a l c e) :
    Calls Try.prog 158 #[.pointer (some ⟨b, 0, none⟩)] w fun r w' => r = .returned (.int .i64 (St.left ⟨l, e⟩ : Int)) ∧ w = w' := by
  have c0 := h.c0
  go_enter Try.func158, Try.ntmps158
  go_wp2_with fail
  refine (rwhole_calls h).mono ?_
  rintro r w1 ⟨rfl, rfl⟩
  by_cases he : e = 0
  · have ge : (e == 0) = true := by rw [he]; rfl
    have HE : Hid (St.left ⟨l, e⟩ = l.length) := by rw [Hid, St.left, if_pos he]
    clear he
    go_wp2_with fail
    go_ret
    exact ⟨by rw [HE.out]; rfl, rfl⟩
  · have ge : (e == 0) = false := by simpa using he
    have HE : Hid (St.left ⟨l, e⟩ = 0) := by rw [Hid, St.left, if_neg he]
    clear he
    go_wp2_with fail
    go_ret
    exact ⟨by rw [HE.out]; rfl, rfl⟩

def St.fin (s : St) : Int := if 0 < s.left then 50 else s.e
theorem wrend_calls {base top w b a l c e} (h : Rd base top w b a l c e) :
    Calls Try.prog 113 #[.pointer (some ⟨b, 0, none⟩)] w fun r w' => r = .returned (.int .i64 (St.fin ⟨l, e⟩)) ∧ w = w' := by
  go_enter Try.func113, Try.ntmps113
  go_wp2_with fail
  refine (rleft_calls h).mono ?_
  rintro r w1 ⟨rfl, rfl⟩
  by_cases he : 0 < St.left ⟨l, e⟩
  · have HE : Hid (St.fin ⟨l, e⟩ = 50) := by rw [Hid, St.fin, if_pos he]
    go_wp2_with fail
    go_ret
    exact ⟨by rw [HE.out]; rfl, rfl⟩
  · have HE : Hid (St.fin ⟨l, e⟩ = e) := by rw [Hid, St.fin, if_neg he]
    go_wp2_with fail
    refine (rerr_calls h).mono ?_
    rintro r w2 ⟨rfl, rfl⟩
    go_wp2_with fail
    go_ret
    exact ⟨by rw [HE.out]; rfl, rfl⟩

def St.new (l : List UInt8) : St := if l.length ≤ 65536 then ⟨l, 0⟩ else ⟨[], 3⟩
theorem newreader_calls (w : World) {a0 : Option Addr} {l : List UInt8} {c0 : Nat} (h0 : Row w a0 l c0) :
    Calls Try.prog 103 #[.slice a0 l.length c0] w fun r w' => r = .returned (.pointer (some ⟨w.heap.size, 0, none⟩)) ∧ RdAt w.heap.size w'.heap.size w' w.heap.size (St.new l) ∧ Below w.heap.size w w' := by
  have hlen := h0.len_le
  have hn := heap_alloc_new w (.cells #[.slice none 0 0, .bool true, .int .i64 0] 158)
  have hb0 : Below w.heap.size w (w.alloc (.cells #[.slice none 0 0, .bool true, .int .i64 0] 158)) := (Below.refl _ _).alloc (Nat.le_refl _) _
  go_enter Try.func103, Try.ntmps103
  by_cases hl : 65536 < l.length
  · have HE : Hid (St.new l = ⟨[], 3⟩) := by rw [Hid, St.new, if_neg (by omega)]
    go_wp2_with fail
    go_ret
    refine ⟨rfl, ?_, (Below.refl _ _).alloc (Nat.le_refl _) _⟩
    rw [HE.out]
    exact ⟨none, 0, heap_alloc_new w _, Row.nil_ _, Nat.le_refl _, fun h => absurd rfl h, by simp⟩
  · have HE : Hid (St.new l = ⟨l, 0⟩) := by rw [Hid, St.new, if_pos (by omega)]
    have r0 := h0.stay hb0
    have hl9 : l.length ≤ 65536 := by omega
    clear h0 hl
    have hk := toX (cat1_calls _ 41 r0 (by omega))
    rw [show (w.alloc (.cells #[.slice none 0 0, .bool true, .int .i64 0] 158)).heap.size = w.heap.size + 1 by simp] at hk
    go_wp2_with fail
    refine Calls.mono hk ?_
    rintro e w2 ⟨a2, X, c2, HX, rfl, hm2, hb2⟩
    have hn2 := (hb2.block w.heap.size (by simp)).trans hn
    have cc : w2.cell? ⟨w.heap.size, 0, none⟩ = some (.slice none 0 0) := by rw [World.cell?, hn2]; rfl
    have ff : w2.frozen? ⟨w.heap.size, 0, none⟩ = false := by simp [World.frozen?, hn2]
    have HN := Lib.hid hn2
    have hXl : X.length ≤ 65536 := by rw [HX.out]; exact hl9
    clear hn hn2
    go_wp2_with fail
    go_ret
    have hS : Save (· ≠ w.heap.size) w2 (w2.setCell ⟨w.heap.size, 0, none⟩ (.slice a2 X.length c2)) := Save.set
    have hoff : ∀ g, blk a2 = some g → g ≠ w.heap.size := fun g hg => by have := hm2.new g hg; omega
    refine ⟨rfl, ?_, (hb0.trans (hb2.mono (by simp))).setCell (Nat.le_refl _) _⟩
    rw [HE.out, ← HX.out]
    refine ⟨a2, c2, set0 HN.out, hm2.row.save hS hoff, Nat.le_refl _, fun hX g hg => ⟨hoff g hg, by have := hm2.new g hg; omega, ?_⟩, hXl⟩
    have h1 := hm2.row.blk (List.length_pos_iff.2 hX)
    have h2 := hS.size
    cases a2 with
    | none => simp [blk] at hg
    | some p => simp [blk, ad] at hg h1; omega
end Go.Proofs.Ytpnbaapjjchlbaa

/- wire.Reader's Byte, Int, Flag, Bytes, Text: contracts. -/

namespace Go.Proofs.Ytpnbaapjjchlbaa
open Go Go.RowKit Go.Cit

def St.read {α : Type} (s : St) (n : Nat) (f : List UInt8 → α × Bool) (z : α) : α × St :=
  match s.next n with
  | (some x, s') => if (f x).2 then ((f x).1, s') else (z, St.broke)
  | (none, s') => (z, s')
theorem RdAt.stay {base top w w' b s} (h : RdAt base top w b s) (hb : Below w.heap.size w w') : RdAt base top w' b s := by
  obtain ⟨a, c, h⟩ := h; exact ⟨a, c, h.stay hb⟩
theorem RdAt.save {S : Nat → Prop} {base top w w' b s} (h : RdAt base top w b s) (hs : Save S w w') (hb : S b) (ht : ∀ g, base ≤ g → g < top → S g) : RdAt base top w' b s := by
  obtain ⟨a, c, h⟩ := h; exact ⟨a, c, h.save hs hb (fun hl g hg => ht g (h.off hl g hg).2.1 (h.off hl g hg).2.2)⟩
theorem next_no {l : List UInt8} {e : Int} {n : Nat} (h : e = 0 → l.length < n) : St.next ⟨l, e⟩ n = (none, St.breaks ⟨l, e⟩) := by
  unfold St.next St.breaks
  by_cases he : e = 0
  · simp [he, Nat.not_le.2 (h he)]
  · simp [he]
theorem next_yes {l : List UInt8} {n : Nat} (h : n ≤ l.length) : St.next ⟨l, 0⟩ n = (some (l.take n), ⟨l.drop n, 0⟩) := by
  unfold St.next
  simp [h]
theorem read_no {α : Type} {l : List UInt8} {e : Int} {n : Nat} {f : List UInt8 → α × Bool} {z : α} (h : e = 0 → l.length < n) : St.read ⟨l, e⟩ n f z = (z, St.breaks ⟨l, e⟩) := by
  rw [St.read, next_no h]
theorem read_yes {α : Type} {l : List UInt8} {n : Nat} {f : List UInt8 → α × Bool} {z : α} (h : n ≤ l.length) (hf : (f (l.take n)).2 = true) : St.read ⟨l, 0⟩ n f z = ((f (l.take n)).1, ⟨l.drop n, 0⟩) := by
  rw [St.read, next_yes h]; simp [hf]
theorem read_bad {α : Type} {l : List UInt8} {n : Nat} {f : List UInt8 → α × Bool} {z : α} (h : n ≤ l.length) (hf : (f (l.take n)).2 = false) : St.read ⟨l, 0⟩ n f z = (z, St.broke) := by
  rw [St.read, next_yes h]; simp [hf]

def i64Q (x : UInt64) : Int := wrap64 (x.toNat : Int)
def fByte (x : List UInt8) : UInt8 × Bool := (x.getD 0 0, true)
def fInt (x : List UInt8) : Int × Bool := (i64Q (numB x), true)
def fFlag (x : List UInt8) : Bool × Bool := (x.getD 0 0 == bI 1, decide ((x.getD 0 0).toNat ≤ 1))
def fLen (x : List UInt8) : Int × Bool := (((numB x).toNat : Int), decide ((numB x).toNat ≤ 65536))

theorem loadB_all {l : List UInt8} {n : Nat} (h : l.length = n) : loadB l 0 n = (numB l, true) := by
  rw [loadB, if_pos (by omega)]
  simp [List.take_of_length_le (Nat.le_of_eq h)]

theorem flag_is (w : World) {a : Option Addr} {X : List UInt8} {c : Nat} (r : Row w a X c) (h : X.length = 1) :
    Calls Try.prog 152 #[.slice a X.length c] w fun e w' => e = .returned (.tuple #[.bool (fFlag X).1, .bool (fFlag X).2]) ∧ Below w.heap.size w w' := by
  have h0 : 0 < X.length := by omega
  have i0 := r.index bt.slice bt.sz 0 h0
  have e0 := r.cell 0 h0
  rw [show ((0 : Nat) : Int) = 0 from rfl] at i0
  have HE : Hid (fFlag X = (X[0] == bI 1, decide (X[0].toNat ≤ 1))) := by rw [Hid, fFlag]; simp [List.getD, h0]
  clear h
  go_enter Try.func152, Try.ntmps152
  go_wp2_with fail
  have ec : ∀ n, (w.drewN n).cell? (ad a 0) = some (vb X[0]) := fun _ => e0
  go_quiet (fail)
  go_wp2_with fail
  go_ret2
  refine ⟨?_, below_drewN _ _ _⟩
  rw [HE.out]
  have : decide ((X[0].toNat : Int) ≤ 1) = decide (X[0].toNat ≤ 1) := decide_eq_decide.2 (by omega)
  first | rfl | (rw [← this]; rfl)

theorem int_is (w : World) {a : Option Addr} {X : List UInt8} {c : Nat} (r : Row w a X c) (h : X.length = 8) :
    Calls Try.prog 149 #[.slice a X.length c] w fun e w' => e = .returned (.tuple #[.int .i64 (fInt X).1, .bool (fInt X).2]) ∧ Below w.heap.size w w' := by
  have hk := load64_calls w _ _ _ 0 r
  rw [loadB_all h] at hk
  clear h
  go_enter Try.func149, Try.ntmps149
  go_wp2_with fail
  refine Calls.mono hk ?_
  rintro e w1 ⟨rfl, hw⟩
  subst hw
  go_wp2_with fail
  go_ret2
  exact ⟨rfl, Below.refl _ _⟩

theorem len_is (w : World) {a : Option Addr} {X : List UInt8} {c : Nat} (r : Row w a X c) (h : X.length = 4) :
    Calls Try.prog 153 #[.slice a X.length c] w fun e w' => e = .returned (.tuple #[.int .i64 (fLen X).1, .bool (fLen X).2]) ∧ Below w.heap.size w w' := by
  have hk := load32_calls w _ _ _ 0 r
  rw [loadB_all h] at hk
  have hlt : (numB X).toNat < 4294967296 := numB_lt X 4 (by omega) (by decide)
  have hq : ((wOfQ (numB X)).toNat : Int) = ((numB X).toNat : Int) := by
    unfold wOfQ; rw [UInt64.toNat_toUInt32]; omega
  clear h
  have HQ := Lib.hid hq
  generalize wOfQ (numB X) = q at hk HQ hq
  have hq2 : (q.toNat : Int) < 4294967296 := by have := q.toNat_lt; omega
  clear hq
  go_enter Try.func153, Try.ntmps153
  go_wp2_with fail
  refine Calls.mono hk ?_
  rintro e w1 ⟨rfl, hw⟩
  subst hw
  go_wp2_with fail
  go_ret2
  refine ⟨?_, Below.refl _ _⟩
  rw [fLen, ← HQ.out]
  have e1 : IntKind.i64.wrap (q.toNat : Int) = q.toNat := IntWalk.i64_in _ (by omega)
  have e2 : decide ((q.toNat : Int) ≤ 65536) = decide ((numB X).toNat ≤ 65536) := decide_eq_decide.2 (by have := HQ.out; omega)
  first | rfl | (rw [← e2]; rfl) | (rw [← e2]; simp [e1])

theorem int_field {base top w b a l c e} (h : Rd base top w b a l c e) :
    Calls Try.prog 148 #[.pointer (some ⟨b, 0, none⟩), .int .i64 8, .func (.func 149) #[] #[]] w fun r w' => r = .returned (.int .i64 (St.read ⟨l, e⟩ 8 fInt 0).1) ∧ RdAt base top w' b (St.read ⟨l, e⟩ 8 fInt 0).2 ∧ Save (· ≠ b) w w' := by
  by_cases hy : e = 0 ∧ 8 ≤ l.length
  · obtain ⟨rfl, hn⟩ := hy
    have hk := take_yes h 8 hn
    have HN := Lib.hid hn
    rw [show ((8 : Nat) : Int) = 8 from rfl] at hk
    go_enter Try.func148, Try.ntmps148
    go_wp2_with fail
    refine Calls.mono hk ?_
    rintro r w1 ⟨a1, X, c1, HX, rfl, r1, hR, hS⟩
    have hX : X.length = 8 := by rw [HX.out, List.length_take]; omega
    have hi := int_is w1 r1 hX
    clear hX hk hn
    go_wp2_with fail
    refine Calls.mono hi ?_
    rintro r w2 ⟨rfl, hb2⟩
    replace hR := RdAt.stay hR hb2
    replace hS := hS.trans (Save.of hb2)
    cases hok : (fInt X).2
    · have HR : Hid (St.read ⟨l, 0⟩ 8 fInt 0 = (0, St.broke)) := read_bad HN.out (by rw [← HX.out]; exact hok)
      obtain ⟨a2, c2, hR⟩ := hR
      go_wp2_with fail
      refine (breaks_calls hR).mono ?_
      rintro r w3 ⟨rfl, hR3, hS3⟩
      go_wp2_with fail
      go_ret
      rw [HR.out]
      exact ⟨rfl, hR3, hS.trans hS3⟩
    · have HR : Hid (St.read ⟨l, 0⟩ 8 fInt 0 = ((fInt X).1, ⟨l.drop 8, 0⟩)) := by rw [Hid, HX.out]; exact read_yes HN.out (by rw [← HX.out]; exact hok)
      go_wp2_with fail
      go_ret
      rw [HR.out]
      exact ⟨rfl, hR, hS⟩
  · have hno : e = 0 → (l.length : Int) < 8 := fun he => by have := fun h => hy ⟨he, h⟩; omega
    have hk := take_no h 8 hno
    have HR : Hid (St.read ⟨l, e⟩ 8 fInt 0 = (0, St.breaks ⟨l, e⟩)) := read_no (fun he => by have := hno he; omega)
    clear hno hy
    go_enter Try.func148, Try.ntmps148
    go_wp2_with fail
    refine Calls.mono hk ?_
    rintro r w1 ⟨rfl, hR, hS⟩
    go_wp2_with fail
    go_ret
    rw [HR.out]
    exact ⟨rfl, hR, hS⟩

theorem rint_calls {base top w b a l c e} (h : Rd base top w b a l c e) :
    Calls Try.prog 106 #[.pointer (some ⟨b, 0, none⟩)] w fun r w' => r = .returned (.int .i64 (St.read ⟨l, e⟩ 8 fInt 0).1) ∧ RdAt base top w' b (St.read ⟨l, e⟩ 8 fInt 0).2 ∧ Save (· ≠ b) w w' := by
  go_enter Try.func106, Try.ntmps106
  go_wp2_with fail
  refine (int_field h).mono ?_
  rintro r w1 ⟨rfl, hR, hS⟩
  go_wp2_with fail
  go_ret
  exact ⟨rfl, hR, hS⟩

theorem flag_field {base top w b a l c e} (h : Rd base top w b a l c e) :
    Calls Try.prog 151 #[.pointer (some ⟨b, 0, none⟩), .int .i64 1, .func (.func 152) #[] #[]] w fun r w' => r = .returned (.bool (St.read ⟨l, e⟩ 1 fFlag false).1) ∧ RdAt base top w' b (St.read ⟨l, e⟩ 1 fFlag false).2 ∧ Save (· ≠ b) w w' := by
  by_cases hy : e = 0 ∧ 1 ≤ l.length
  · obtain ⟨rfl, hn⟩ := hy
    have hk := take_yes h 1 hn
    have HN := Lib.hid hn
    rw [show ((1 : Nat) : Int) = 1 from rfl] at hk
    go_enter Try.func151, Try.ntmps151
    go_wp2_with fail
    refine Calls.mono hk ?_
    rintro r w1 ⟨a1, X, c1, HX, rfl, r1, hR, hS⟩
    have hX : X.length = 1 := by rw [HX.out, List.length_take]; omega
    have hi := flag_is w1 r1 hX
    clear hX hk hn
    go_wp2_with fail
    refine Calls.mono hi ?_
    rintro r w2 ⟨rfl, hb2⟩
    replace hR := RdAt.stay hR hb2
    replace hS := hS.trans (Save.of hb2)
    cases hok : (fFlag X).2
    · have HR : Hid (St.read ⟨l, 0⟩ 1 fFlag false = (false, St.broke)) := read_bad HN.out (by rw [← HX.out]; exact hok)
      obtain ⟨a2, c2, hR⟩ := hR
      go_wp2_with fail
      refine (breaks_calls hR).mono ?_
      rintro r w3 ⟨rfl, hR3, hS3⟩
      go_wp2_with fail
      go_ret
      rw [HR.out]
      exact ⟨rfl, hR3, hS.trans hS3⟩
    · have HR : Hid (St.read ⟨l, 0⟩ 1 fFlag false = ((fFlag X).1, ⟨l.drop 1, 0⟩)) := by rw [Hid, HX.out]; exact read_yes HN.out (by rw [← HX.out]; exact hok)
      go_wp2_with fail
      go_ret
      rw [HR.out]
      exact ⟨rfl, hR, hS⟩
  · have hno : e = 0 → (l.length : Int) < 1 := fun he => by have := fun h => hy ⟨he, h⟩; omega
    have hk := take_no h 1 hno
    have HR : Hid (St.read ⟨l, e⟩ 1 fFlag false = (false, St.breaks ⟨l, e⟩)) := read_no (fun he => by have := hno he; omega)
    clear hno hy
    go_enter Try.func151, Try.ntmps151
    go_wp2_with fail
    refine Calls.mono hk ?_
    rintro r w1 ⟨rfl, hR, hS⟩
    go_wp2_with fail
    go_ret
    rw [HR.out]
    exact ⟨rfl, hR, hS⟩

theorem rflag_calls {base top w b a l c e} (h : Rd base top w b a l c e) :
    Calls Try.prog 109 #[.pointer (some ⟨b, 0, none⟩)] w fun r w' => r = .returned (.bool (St.read ⟨l, e⟩ 1 fFlag false).1) ∧ RdAt base top w' b (St.read ⟨l, e⟩ 1 fFlag false).2 ∧ Save (· ≠ b) w w' := by
  go_enter Try.func109, Try.ntmps109
  go_wp2_with fail
  refine (flag_field h).mono ?_
  rintro r w1 ⟨rfl, hR, hS⟩
  go_wp2_with fail
  go_ret
  exact ⟨rfl, hR, hS⟩

theorem len_field {base top w b a l c e} (h : Rd base top w b a l c e) :
    Calls Try.prog 148 #[.pointer (some ⟨b, 0, none⟩), .int .i64 4, .func (.func 153) #[] #[]] w fun r w' => r = .returned (.int .i64 (St.read ⟨l, e⟩ 4 fLen 0).1) ∧ RdAt base top w' b (St.read ⟨l, e⟩ 4 fLen 0).2 ∧ Save (· ≠ b) w w' := by
  by_cases hy : e = 0 ∧ 4 ≤ l.length
  · obtain ⟨rfl, hn⟩ := hy
    have hk := take_yes h 4 hn
    have HN := Lib.hid hn
    rw [show ((4 : Nat) : Int) = 4 from rfl] at hk
    go_enter Try.func148, Try.ntmps148
    go_wp2_with fail
    refine Calls.mono hk ?_
    rintro r w1 ⟨a1, X, c1, HX, rfl, r1, hR, hS⟩
    have hX : X.length = 4 := by rw [HX.out, List.length_take]; omega
    have hi := len_is w1 r1 hX
    clear hX hk hn
    go_wp2_with fail
    refine Calls.mono hi ?_
    rintro r w2 ⟨rfl, hb2⟩
    replace hR := RdAt.stay hR hb2
    replace hS := hS.trans (Save.of hb2)
    cases hok : (fLen X).2
    · have HR : Hid (St.read ⟨l, 0⟩ 4 fLen 0 = (0, St.broke)) := read_bad HN.out (by rw [← HX.out]; exact hok)
      obtain ⟨a2, c2, hR⟩ := hR
      go_wp2_with fail
      refine (breaks_calls hR).mono ?_
      rintro r w3 ⟨rfl, hR3, hS3⟩
      go_wp2_with fail
      go_ret
      rw [HR.out]
      exact ⟨rfl, hR3, hS.trans hS3⟩
    · have HR : Hid (St.read ⟨l, 0⟩ 4 fLen 0 = ((fLen X).1, ⟨l.drop 4, 0⟩)) := by rw [Hid, HX.out]; exact read_yes HN.out (by rw [← HX.out]; exact hok)
      go_wp2_with fail
      go_ret
      rw [HR.out]
      exact ⟨rfl, hR, hS⟩
  · have hno : e = 0 → (l.length : Int) < 4 := fun he => by have := fun h => hy ⟨he, h⟩; omega
    have hk := take_no h 4 hno
    have HR : Hid (St.read ⟨l, e⟩ 4 fLen 0 = (0, St.breaks ⟨l, e⟩)) := read_no (fun he => by have := hno he; omega)
    clear hno hy
    go_enter Try.func148, Try.ntmps148
    go_wp2_with fail
    refine Calls.mono hk ?_
    rintro r w1 ⟨rfl, hR, hS⟩
    go_wp2_with fail
    go_ret
    rw [HR.out]
    exact ⟨rfl, hR, hS⟩

end Go.Proofs.Ytpnbaapjjchlbaa

/- wire.Reader's Bytes, Text, Count: contracts. -/
namespace Go.Proofs.Ytpnbaapjjchlbaa
open Go Go.RowKit Go.Cit

def fAll (x : List UInt8) : List UInt8 × Bool := (x, true)

/-- What a reading of bytes leaves. -/
def Got (base top : Nat) (w : World) (b : Nat) (p : List UInt8 × St) (r : Ending) (w' : World) : Prop :=
  ∃ a' X c', Hid (X = p.1) ∧ r = .returned (.slice a' X.length c') ∧ Mine w.heap.size w' a' X c' ∧ RdAt base top w' b p.2 ∧ Save (· ≠ b) w w'

theorem cat_is (w : World) {a : Option Addr} {X : List UInt8} {c : Nat} (r : Row w a X c) (h : X.length ≤ 300000000) :
    Calls Try.prog 157 #[.slice a X.length c] w fun e w' => ∃ a' Y c', Hid (Y = X) ∧ e = .returned (.tuple #[.slice a' Y.length c', .bool true]) ∧ Mine w.heap.size w' a' Y c' ∧ Below w.heap.size w w' := by
  go_enter Try.func157, Try.ntmps157
  go_wp2_with fail
  refine (toX (cat1_calls _ _ r (by omega))).mono ?_
  rintro e w2 ⟨a2, Y, c2, HY, rfl, hm2, hb2⟩
  go_wp2_with fail
  go_ret2
  exact ⟨a2, Y, c2, HY, rfl, hm2, hb2⟩

theorem all_field {base top w b a l c e} (h : Rd base top w b a l c e) (n : Nat) :
    Calls Try.prog 156 #[.pointer (some ⟨b, 0, none⟩), .int .i64 n, .func (.func 157) #[] #[]] w (Got base top w b (St.read ⟨l, e⟩ n fAll [])) := by
  by_cases hy : e = 0 ∧ n ≤ l.length
  · obtain ⟨rfl, hn⟩ := hy
    have hk := take_yes h n hn
    have HR : Hid (St.read ⟨l, 0⟩ n fAll [] = (l.take n, ⟨l.drop n, 0⟩)) := read_yes hn rfl
    have hl := h.len
    go_enter Try.func156, Try.ntmps156
    go_wp2_with fail
    refine Calls.mono hk ?_
    rintro r w1 ⟨a1, X, c1, HX, rfl, r1, hR, hS⟩
    have hX : X.length ≤ 65536 := by rw [HX.out, List.length_take]; omega
    have hi := cat_is w1 r1 (by omega)
    clear hk
    go_wp2_with fail
    refine Calls.mono hi ?_
    rintro r w2 ⟨a2, Y, c2, HY, rfl, hm2, hb2⟩
    go_wp2_with fail
    go_ret
    rw [HR.out]
    exact ⟨a2, Y, c2, by rw [Hid, HY.out, HX.out], rfl, hm2.low hS.size, RdAt.stay hR hb2, hS.trans (Save.of hb2)⟩
  · have hno : e = 0 → l.length < n := fun he => by have := fun h => hy ⟨he, h⟩; omega
    have hk := take_no h n (fun he => by have := hno he; omega)
    have HR : Hid (St.read ⟨l, e⟩ n fAll [] = ([], St.breaks ⟨l, e⟩)) := read_no hno
    clear hno hy
    go_enter Try.func156, Try.ntmps156
    go_wp2_with fail
    refine Calls.mono hk ?_
    rintro r w1 ⟨rfl, hR, hS⟩
    go_wp2_with fail
    go_ret
    rw [HR.out]
    exact ⟨none, [], 0, rfl, rfl, Mine.nil _ _, hR, hS⟩

def St.bytes (s : St) : List UInt8 × St :=
  if (s.read 4 fLen 0).2.e = 0 then (s.read 4 fLen 0).2.read (s.read 4 fLen 0).1.toNat fAll [] else ([], (s.read 4 fLen 0).2)

theorem read_len (s : St) : ∃ m : Nat, (s.read 4 fLen 0).1 = (m : Int) := by
  unfold St.read
  split
  · split
    · exact ⟨_, rfl⟩
    · exact ⟨0, rfl⟩
  · exact ⟨0, rfl⟩

theorem rbytes_calls {base top w b a l c e} (h : Rd base top w b a l c e) :
    Calls Try.prog 110 #[.pointer (some ⟨b, 0, none⟩)] w (Got base top w b (St.bytes ⟨l, e⟩)) := by
  have hk := len_field h
  obtain ⟨m, hm⟩ := read_len ⟨l, e⟩
  rw [hm] at hk
  obtain ⟨s, hs⟩ : ∃ s, Hid (s = (St.read ⟨l, e⟩ 4 fLen 0).2) := ⟨_, rfl⟩
  rw [← hs.out] at hk
  have HB : Hid (St.bytes ⟨l, e⟩ = if s.e = 0 then s.read m fAll [] else ([], s)) := by rw [Hid, St.bytes, ← hs.out, hm]; rfl
  clear hm hs
  go_enter Try.func110, Try.ntmps110
  go_wp2_with fail
  refine Calls.mono hk ?_
  rintro r w1 ⟨rfl, ⟨a1, c1, hR⟩, hS⟩
  clear hk
  go_wp2_with fail
  refine (rwhole_calls hR).mono ?_
  rintro r w2 ⟨rfl, rfl⟩
  by_cases he : s.e = 0
  · have ge : (s.e == 0) = true := by rw [he]; rfl
    have HB2 : Hid (St.bytes ⟨l, e⟩ = s.read m fAll []) := by rw [Hid, HB.out, if_pos he]
    clear he HB
    go_wp2_with fail
    refine (all_field hR m).mono ?_
    rintro r w3 ⟨a3, X, c3, HX, rfl, hm3, hR3, hS3⟩
    go_wp2_with fail
    go_ret
    exact ⟨a3, X, c3, by rw [Hid, HX.out, HB2.out], rfl, hm3.low hS.size, by rw [HB2.out]; exact hR3, hS.trans hS3⟩
  · have ge : (s.e == 0) = false := by simpa using he
    have HB2 : Hid (St.bytes ⟨l, e⟩ = ([], s)) := by rw [Hid, HB.out, if_neg he]
    clear he HB
    go_wp2_with fail
    go_ret
    exact ⟨none, [], 0, by rw [Hid, HB2.out], rfl, Mine.nil _ _, by rw [HB2.out]; exact ⟨a1, c1, hR⟩, hS⟩

/-- Count, by itself. -/
def St.count (s : St) (most : Int) : Int × St :=
  match s.next 8 with
  | (some x, s') => if 0 ≤ i64Q (numB x) ∧ i64Q (numB x) ≤ most ∧ i64Q (numB x) ≤ (s'.l.length : Int) then (i64Q (numB x), s') else (0, St.broke)
  | (none, s') => (0, s')

theorem ret_ib {a b : Int} {s t : Bool} (h : a = b) (k : s = t) : Ending.returned (.tuple #[.int .i64 a, .bool s]) = .returned (.tuple #[.int .i64 b, .bool t]) := by rw [h, k]
theorem count_is {base top w b a l c e} (h : Rd base top w b a l c e) (most : Int) (g1 g2 : Nat) (h1 : w.cell? ⟨g1, 0, none⟩ = some (.int .i64 most)) (h2 : w.cell? ⟨g2, 0, none⟩ = some (.pointer (some ⟨b, 0, none⟩))) {a' : Option Addr} {X : List UInt8} {c' : Nat} (r : Row w a' X c') (hX : X.length = 8) :
    Calls Try.prog 172 #[.slice a' X.length c', .pointer (some ⟨g1, 0, none⟩), .pointer (some ⟨g2, 0, none⟩)] w fun r w' => r = .returned (.tuple #[.int .i64 (i64Q (numB X)), .bool (decide (0 ≤ i64Q (numB X)) && decide (i64Q (numB X) ≤ min most (l.length : Int)))]) ∧ Below w.heap.size w w' := by
  have hk := load64_calls w _ _ _ 0 r
  rw [loadB_all hX] at hk
  have c0 := h.c0
  have c0' : ∀ n, (w.drewN n).cell? ⟨b, 0, none⟩ = some (.slice a l.length c) := fun _ => c0
  have h1' : ∀ n, (w.drewN n).cell? ⟨g1, 0, none⟩ = some (.int .i64 most) := fun _ => h1
  have h2' : ∀ n, (w.drewN n).cell? ⟨g2, 0, none⟩ = some (.pointer (some ⟨b, 0, none⟩)) := fun _ => h2
  obtain ⟨q, hq⟩ : ∃ q, wrap64 ((numB X).toNat : Int) = q := ⟨_, rfl⟩
  rw [show i64Q (numB X) = q from hq]
  clear hX
  go_enter Try.func172, Try.ntmps172
  go_wp2_with fail
  refine Calls.mono hk ?_
  rintro r w1 ⟨rfl, hw⟩
  subst hw
  have hl9 := h.len
  by_cases hq0 : 0 ≤ q
  · have hd : decide (0 ≤ q) = true := decide_eq_true hq0
    go_wp2_with fail
    go_quiet (fail)
    go_wp2_with fail
    go_ret2
    refine ⟨ret_ib hq ?_, below_drewN _ _ _⟩
    simp [hd]
  · have hd : decide (0 ≤ q) = false := decide_eq_false hq0
    go_wp2_with fail
    go_quiet (fail)
    go_wp2_with fail
    go_ret2
    refine ⟨ret_ib hq ?_, below_drewN _ _ _⟩
    simp [hd]
theorem count_yes {l : List UInt8} {most : Int} (h : 8 ≤ l.length) (hf : (decide (0 ≤ i64Q (numB (l.take 8))) && decide (i64Q (numB (l.take 8)) ≤ min most ((l.drop 8).length : Int))) = true) : St.count ⟨l, 0⟩ most = (i64Q (numB (l.take 8)), ⟨l.drop 8, 0⟩) := by
  rw [St.count, next_yes h]
  simp only [Bool.and_eq_true, decide_eq_true_eq] at hf
  exact if_pos ⟨hf.1, by omega, by show _ ≤ ((l.drop 8).length : Int); omega⟩
theorem count_bad {l : List UInt8} {most : Int} (h : 8 ≤ l.length) (hf : (decide (0 ≤ i64Q (numB (l.take 8))) && decide (i64Q (numB (l.take 8)) ≤ min most ((l.drop 8).length : Int))) = false) : St.count ⟨l, 0⟩ most = (0, St.broke) := by
  rw [St.count, next_yes h]
  simp only [Bool.and_eq_false_iff, decide_eq_false_iff_not] at hf
  exact if_neg (fun hc => by
    obtain ⟨a1, a2, a3⟩ := hc
    have a4 : i64Q (numB (l.take 8)) ≤ ((l.drop 8).length : Int) := a3
    rcases hf with h | h <;> omega)
theorem count_no {l : List UInt8} {e most : Int} (h : e = 0 → l.length < 8) : St.count ⟨l, e⟩ most = (0, St.breaks ⟨l, e⟩) := by
  rw [St.count, next_no h]

theorem count_field {base top w b a l c e} (h : Rd base top w b a l c e) (most : Int) (g1 g2 : Nat) (n1 : g1 ≠ b) (n2 : g2 ≠ b) (h1 : w.cell? ⟨g1, 0, none⟩ = some (.int .i64 most)) (h2 : w.cell? ⟨g2, 0, none⟩ = some (.pointer (some ⟨b, 0, none⟩))) :
    Calls Try.prog 148 #[.pointer (some ⟨b, 0, none⟩), .int .i64 8, .func (.func 172) #[] #[.pointer (some ⟨g1, 0, none⟩), .pointer (some ⟨g2, 0, none⟩)]] w fun r w' => r = .returned (.int .i64 (St.count ⟨l, e⟩ most).1) ∧ RdAt base top w' b (St.count ⟨l, e⟩ most).2 ∧ Save (· ≠ b) w w' := by
  have lt1 := World.block_lt_of_cell? w _ h1
  have lt2 := World.block_lt_of_cell? w _ h2
  by_cases hy : e = 0 ∧ 8 ≤ l.length
  · obtain ⟨rfl, hn⟩ := hy
    have hk := take_yes h 8 hn
    have HN := Lib.hid hn
    rw [show ((8 : Nat) : Int) = 8 from rfl] at hk
    go_enter Try.func148, Try.ntmps148
    go_wp2_with fail
    refine Calls.mono hk ?_
    rintro r w1 ⟨a1, X, c1, HX, rfl, r1, ⟨a2, c2, hR⟩, hS⟩
    have hX : X.length = 8 := by rw [HX.out, List.length_take]; omega
    have hi := count_is hR most g1 g2 ((hS.cell (p := ⟨g1, 0, none⟩) lt1 n1).trans h1) ((hS.cell (p := ⟨g2, 0, none⟩) lt2 n2).trans h2) r1 hX
    clear hX hk hn
    obtain ⟨B, hB⟩ : ∃ B, Hid (B = (decide (0 ≤ i64Q (numB X)) && decide (i64Q (numB X) ≤ min most ((l.drop 8).length : Int)))) := ⟨_, rfl⟩
    rw [← hB.out] at hi
    go_wp2_with fail
    refine Calls.mono hi ?_
    rintro r w2 ⟨rfl, hb2⟩
    have hR2 := hR.stay hb2
    replace hS := hS.trans (Save.of hb2)
    cases hok : B
    · have HR : Hid (St.count ⟨l, 0⟩ most = (0, St.broke)) := count_bad HN.out (by rw [← HX.out, ← hB.out]; exact hok)
      go_wp2_with fail
      refine (breaks_calls hR2).mono ?_
      rintro r w3 ⟨rfl, hR3, hS3⟩
      go_wp2_with fail
      go_ret
      rw [HR.out]
      exact ⟨rfl, hR3, hS.trans hS3⟩
    · have HR : Hid (St.count ⟨l, 0⟩ most = (i64Q (numB X), ⟨l.drop 8, 0⟩)) := by rw [Hid, HX.out]; exact count_yes HN.out (by rw [← HX.out, ← hB.out]; exact hok)
      go_wp2_with fail
      go_ret
      rw [HR.out]
      exact ⟨rfl, ⟨a2, c2, hR2⟩, hS⟩
  · have hno : e = 0 → (l.length : Int) < 8 := fun he => by have := fun h => hy ⟨he, h⟩; omega
    have hk := take_no h 8 hno
    have HR : Hid (St.count ⟨l, e⟩ most = (0, St.breaks ⟨l, e⟩)) := count_no (fun he => by have := hno he; omega)
    clear hno hy
    go_enter Try.func148, Try.ntmps148
    go_wp2_with fail
    refine Calls.mono hk ?_
    rintro r w1 ⟨rfl, hR, hS⟩
    go_wp2_with fail
    go_ret
    rw [HR.out]
    exact ⟨rfl, hR, hS⟩

theorem rcount_calls {base top w b a l c e} (h : Rd base top w b a l c e) (most : Int) :
    Calls Try.prog 147 #[.pointer (some ⟨b, 0, none⟩), .int .i64 most] w fun r w' => r = .returned (.int .i64 (St.count ⟨l, e⟩ most).1) ∧ RdAt base top w' b (St.count ⟨l, e⟩ most).2 ∧ Save (· ≠ b) w w' := by
  have hmf : ∀ (fn : Fn) (first cap : Array Value) (w : World), (Instr.makeFunc fn first cap).run Try.prog w = .ok (.func fn first cap) w := fun _ _ _ _ => rfl
  have hlt := h.lt
  go_enter Try.func147, Try.ntmps147
  go_wp2_with fail
  obtain ⟨W, HW⟩ : ∃ W, Hid (W = (w.alloc (Obj.cells #[.pointer (some ⟨b, 0, none⟩)] 121)).alloc (Obj.cells #[.int .i64 most] 3)) := ⟨_, rfl⟩
  rw [← HW.out]
  have e1 : W.cell? ⟨w.heap.size + 1, 0, none⟩ = some (.int .i64 most) := by rw [HW.out]; simp
  have e2 : W.cell? ⟨w.heap.size, 0, none⟩ = some (.pointer (some ⟨b, 0, none⟩)) := by rw [HW.out]; simp
  have B : Below w.heap.size w W := by rw [HW.out]; exact ((Below.refl _ _).alloc (Nat.le_refl _) _).alloc (by simp) _
  clear HW hmf
  refine (count_field (h.stay B) most (w.heap.size + 1) w.heap.size (by omega) (by omega) e1 e2).mono ?_
  rintro r w1 ⟨rfl, hR, hS⟩
  go_wp2_with fail
  go_ret
  exact ⟨rfl, hR, (Save.of B).trans hS⟩
end Go.Proofs.Ytpnbaapjjchlbaa

/- Numbers, rows and their order: plain laws. No condition. -/
namespace Go.Proofs.Ytpnbaapjjchlbaa
open Go Go.RowKit Go.Cit

theorem foldN_shift : ∀ (l : List UInt8) (x : Nat), l.foldl (fun x d => 256 * x + d.toNat) x = x * 256 ^ l.length + l.foldl (fun x d => 256 * x + d.toNat) 0
  | [], x => by simp
  | d :: l, x => by
    rw [List.foldl_cons, List.foldl_cons, foldN_shift l (256 * x + d.toNat), foldN_shift l (256 * 0 + d.toNat), List.length_cons, Nat.pow_succ]
    generalize 256 ^ l.length = p
    rw [Nat.mul_zero, Nat.zero_add, Nat.add_mul, Nat.add_assoc]
    congr 1
    rw [Nat.mul_comm p 256, ← Nat.mul_assoc, Nat.mul_comm x 256]
theorem numN_cons (d : UInt8) (l : List UInt8) : numN (d :: l) = d.toNat * 256 ^ l.length + numN l := by
  show l.foldl _ (256 * 0 + d.toNat) = _
  rw [foldN_shift, Nat.mul_zero, Nat.zero_add]; rfl

theorem rowB_of : ∀ (l : List UInt8) (x : UInt64), x.toNat % 256 ^ l.length = numN l → rowB x l.length = l
  | [], _, _ => rfl
  | d :: l, x, h => by
    rw [List.length_cons, Nat.pow_succ, numN_cons] at h
    have hlt := numN_lt l
    have hp : 0 < 256 ^ l.length := Nat.pow_pos (by decide)
    rw [List.length_cons, rowB]
    have e1 : x.toNat / 256 ^ l.length % 256 = d.toNat := by
      rw [← Nat.mod_mul_right_div_self, h, Nat.mul_comm, Nat.mul_add_div hp, Nat.div_eq_of_lt hlt, Nat.add_zero]
    have e2 : x.toNat % 256 ^ l.length = numN l := by
      rw [← Nat.mod_mul_right_mod x.toNat (256 ^ l.length) 256, h, Nat.mul_comm, Nat.mul_add_mod, Nat.mod_eq_of_lt hlt]
    rw [rowB_of l x e2]
    congr 1
    apply UInt8.toNat_inj.1
    rw [byte_dv, e1]
theorem rowB_numB (l : List UInt8) (h : l.length ≤ 8) : rowB (numB l) l.length = l :=
  rowB_of l _ (by rw [numB_toNat l h]; exact Nat.mod_eq_of_lt (numN_lt l))

theorem numN_rowB (x : UInt64) : ∀ n, numN (rowB x n) = x.toNat % 256 ^ n
  | 0 => by simp [rowB, numN, Nat.mod_one]
  | n + 1 => by
    rw [rowB, numN_cons, rowB_length, byte_dv, numN_rowB x n, Nat.pow_succ, Nat.mod_mul, Nat.add_comm, Nat.mul_comm]
theorem numB_rowB (x : UInt64) (n : Nat) (h8 : n ≤ 8) (hx : x.toNat < 256 ^ n) : numB (rowB x n) = x := by
  apply UInt64.toNat_inj.1
  rw [numB_toNat _ (by rw [rowB_length]; exact h8), numN_rowB, Nat.mod_eq_of_lt hx]

theorem ordB_num : ∀ (l m : List UInt8), l.length = m.length → ordB l m = if numN l < numN m then -1 else if numN m < numN l then 1 else 0
  | [], [], _ => by simp [ordB, numN]
  | [], _ :: _, h => by simp at h
  | _ :: _, [], h => by simp at h
  | x :: l, y :: m, h => by
    have hl : l.length = m.length := by simpa using h
    have h1 := numN_lt l
    have h2 := numN_lt m
    have ih := ordB_num l m hl
    rw [ordB, numN_cons, numN_cons, hl]
    rw [hl] at h1
    generalize 256 ^ m.length = p at h1 h2 ⊢
    have hxy : ∀ a b : UInt8, a < b → a.toNat * p + p ≤ b.toNat * p := fun a b hab => by
      have h3 := UInt8.lt_iff_toNat_lt.1 hab
      have := Nat.mul_le_mul_right p h3
      rwa [Nat.succ_mul] at this
    by_cases hx : x < y
    · have := hxy x y hx
      rw [if_pos hx, if_pos (by omega)]
    · by_cases hy : y < x
      · have := hxy y x hy
        rw [if_neg hx, if_pos hy, if_neg (by omega), if_pos (by omega)]
      · have e : x.toNat = y.toNat := by
          rw [UInt8.lt_iff_toNat_lt] at hx hy; omega
        rw [if_neg hx, if_neg hy, ih, e]
        simp only [Nat.add_lt_add_iff_left]

theorem ordB_neg : ∀ a b : List UInt8, ordB b a = - ordB a b
  | [], [] => rfl
  | [], _ :: _ => rfl
  | _ :: _, [] => rfl
  | x :: a, y :: b => by
    have ih := ordB_neg a b
    rw [ordB, ordB]
    by_cases h1 : x < y
    · have h2 : ¬ y < x := by rw [UInt8.lt_iff_toNat_lt] at h1 ⊢; omega
      rw [if_pos h1, if_neg h2, if_pos h1]; rfl
    · by_cases h2 : y < x
      · rw [if_pos h2, if_neg h1, if_pos h2]
      · rw [if_neg h2, if_neg h1, if_neg h1, if_neg h2, ih]
theorem ordB_vals : ∀ a b : List UInt8, ordB a b = -1 ∨ ordB a b = 0 ∨ ordB a b = 1
  | [], [] => .inr (.inl rfl)
  | [], _ :: _ => .inl rfl
  | _ :: _, [] => .inr (.inr rfl)
  | x :: a, y :: b => by
    rw [ordB]
    split
    · exact .inl rfl
    · split
      · exact .inr (.inr rfl)
      · exact ordB_vals a b
theorem ordB_trans : ∀ a b c : List UInt8, ordB a b < 0 → ordB b c < 0 → ordB a c < 0
  | [], [], _, h, _ => absurd h (by decide)
  | _ :: _, [], _, h, _ => absurd h (by simp [ordB])
  | _, _ :: _, [], _, h => absurd h (by simp [ordB])
  | [], _ :: _, _ :: _, _, _ => by simp [ordB]
  | x :: a, y :: b, z :: c, h1, h2 => by
    rw [ordB] at h1 h2 ⊢
    simp only [UInt8.lt_iff_toNat_lt] at h1 h2 ⊢
    by_cases hxy : x.toNat < y.toNat
    · by_cases hzy : z.toNat < y.toNat
      · rw [if_neg (by omega), if_pos hzy] at h2; exact absurd h2 (by decide)
      · rw [if_pos (by omega)]; decide
    · by_cases hyx : y.toNat < x.toNat
      · rw [if_neg hxy, if_pos hyx] at h1; exact absurd h1 (by decide)
      · rw [if_neg hxy, if_neg hyx] at h1
        by_cases hyz : y.toNat < z.toNat
        · rw [if_pos (by omega)]; decide
        · by_cases hzy : z.toNat < y.toNat
          · rw [if_neg hyz, if_pos hzy] at h2; exact absurd h2 (by decide)
          · rw [if_neg hyz, if_neg hzy] at h2
            rw [if_neg (by omega), if_neg (by omega)]
            exact ordB_trans a b c h1 h2
end Go.Proofs.Ytpnbaapjjchlbaa

