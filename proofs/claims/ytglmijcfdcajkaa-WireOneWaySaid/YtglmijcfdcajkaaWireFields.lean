/- wire.Writer's Byte, Int, Flag, Bytes, Text, Tag: contracts, of a writer that was made and has room. -/
import Derived.Test.YtglmijcfdcajkaaWireAdd
import Derived.Test.YtglmijcfdcajkaaSame
import Derived.Deep.MidRow
import Derived.Lib.ConvBytes
namespace Go.Proofs.Ytglmijcfdcajkaa
open Go Go.RowKit Go.Cit

/-- What an addition to a writer leaves. -/
def Added (base : Nat) (w : World) (b : Nat) (a : Option Addr) (Y : List UInt8) (e : Ending) (w' : World) : Prop :=
  ∃ a' X c', Hid (X = Y) ∧ e = .returned (.pointer (some ⟨b, 0, none⟩)) ∧ Wr base w' b a' X c' 0 ∧ Save (Off b a) w w' ∧ Near w.heap.size a a'

theorem Added.from {base w0 w b a Y e w'} (hb : Below w0.heap.size w0 w) (h : Added base w b a Y e w') : Added base w0 b a Y e w' := by
  obtain ⟨a', X, c', h1, h2, h3, h4, h5⟩ := h
  exact ⟨a', X, c', h1, h2, h3, (Save.of hb).trans h4, fun g hg => (h5 g hg).imp id (fun h => Nat.le_trans hb.size h)⟩

theorem add1_calls {base w b a l c} (h : Wr base w b a l c 0) (hbase : base ≤ w.heap.size) (t : TypeId) {a1 : Option Addr} {m : List UInt8} {c1 : Nat} (r1 : Row w a1 m c1) (hne : m ≠ []) (hroom : l.length + m.length ≤ 65536) :
    Calls Try.prog 79 #[.pointer (some ⟨b, 0, none⟩), .slice (some ⟨w.heap.size, 0, none⟩) 1 1] (w.alloc (.cells #[.slice a1 m.length c1] t)) (Added base w b a (l ++ m)) := by
  have hP := parts_new w [.slice a1 m.length c1] [m] t rfl (by
    intro i v l hv hl
    match i with
    | 0 => simp at hv hl; subst hv hl; exact holds_of_row r1
    | i + 1 => simp at hv)
  have hb : Below w.heap.size w (w.alloc (.cells #[.slice a1 m.length c1] t)) := (Below.refl _ _).alloc (Nat.le_refl _) _
  have hk := wadd_calls (h.stay hb) w.heap.size 1 _ _ hP (by simp) (by simp) (by simpa using hne) (by simpa using hroom) (Nat.le_trans hbase hb.size)
  simp only [List.flatten_cons, List.flatten_nil, List.append_nil] at hk
  exact hk.mono fun e w' hh => Added.from hb hh

theorem add2_calls {base w b a l c} (h : Wr base w b a l c 0) (hbase : base ≤ w.heap.size) (t : TypeId) {a1 a2 : Option Addr} {m n : List UInt8} {c1 c2 : Nat} (r1 : Row w a1 m c1) (r2 : Row w a2 n c2) (hne : m ≠ []) (hroom : l.length + m.length + n.length ≤ 65536) :
    Calls Try.prog 79 #[.pointer (some ⟨b, 0, none⟩), .slice (some ⟨w.heap.size, 0, none⟩) 2 2] (w.alloc (.cells #[.slice a1 m.length c1, .slice a2 n.length c2] t)) (Added base w b a (l ++ (m ++ n))) := by
  have hP := parts_new w [.slice a1 m.length c1, .slice a2 n.length c2] [m, n] t rfl (by
    intro i v l hv hl
    match i with
    | 0 => simp at hv hl; subst hv hl; exact holds_of_row r1
    | 1 => simp at hv hl; subst hv hl; exact holds_of_row r2
    | i + 2 => simp at hv)
  have hb : Below w.heap.size w (w.alloc (.cells #[.slice a1 m.length c1, .slice a2 n.length c2] t)) := (Below.refl _ _).alloc (Nat.le_refl _) _
  have hk := wadd_calls (h.stay hb) w.heap.size 2 _ _ hP (by simp) (by simp) (by simp [hne]) (by simp; omega) (Nat.le_trans hbase hb.size)
  simp only [List.flatten_cons, List.flatten_nil, List.append_nil] at hk
  exact hk.mono fun e w' hh => Added.from hb hh

theorem wbyte_calls {base w b a l c} (h : Wr base w b a l c 0) (hbase : base ≤ w.heap.size) (x : UInt8) (hroom : l.length + 1 ≤ 65536) :
    Calls Try.prog 44 #[.pointer (some ⟨b, 0, none⟩), vb x] w (Added base w b a (l ++ [x])) := by
  have hb : Below w.heap.size w (w.alloc (.cells #[vb x] 5)) := (Below.refl _ _).alloc (Nat.le_refl _) _
  have hk := add1_calls (h.stay hb) (Nat.le_trans hbase hb.size) 26 (row_new w _ 5 (0, 0) [x] rfl (by simp)) (by simp) (by simpa using hroom)
  rw [show ([x] : List UInt8).length = 1 from rfl, show (w.alloc (.cells #[vb x] 5)).heap.size = w.heap.size + 1 by simp] at hk
  go_enter Try.func44, Try.ntmps44
  go_wp2_with fail
  refine Calls.mono hk ?_
  rintro e w' hh
  obtain ⟨a', X, c', h1, rfl, h3⟩ := Added.from hb hh
  go_wp2_with fail
  go_ret
  exact ⟨a', X, c', h1, rfl, h3⟩

theorem wint_calls {base w b a l c} (h : Wr base w b a l c 0) (hbase : base ≤ w.heap.size) (n : Int) (hroom : l.length + 8 ≤ 65536) :
    Calls Try.prog 45 #[.pointer (some ⟨b, 0, none⟩), .int .i64 n] w (Added base w b a (l ++ rowB (qOfI n) 8)) := by
  have hq : IntKind.u64.wrap n = ((qOfI n).toNat : Int) := by rw [wrap_u64_eq, qOfI_nat]
  go_enter Try.func45, Try.ntmps45
  go_wp2_with fail
  refine (toXn (rowB_length _ _) (put64_calls _ _)).mono ?_
  rintro e w1 ⟨a1, X, c1, HX, rfl, hm1, hb1⟩
  have hX : Hid (X.length = 8) := by rw [Hid, HX.out, rowB_length]
  have hk := add1_calls (h.stay hb1) (Nat.le_trans hbase hb1.size) 26 hm1.row (by intro h0; rw [h0] at hX; exact absurd hX.out (by decide)) (by rw [hX.out]; exact hroom)
  go_wp2_with fail
  refine Calls.mono hk ?_
  rintro e w' hh
  obtain ⟨a', Y, c', h1, rfl, h3⟩ := Added.from hb1 hh
  go_wp2_with fail
  go_ret
  exact ⟨a', Y, c', by rw [Hid, h1.out, HX.out], rfl, h3⟩

/-- A flag's byte. -/
def flagB (is : Bool) : List UInt8 := [if is then 1 else 0]
theorem wflag_calls {base w b a l c} (h : Wr base w b a l c 0) (hbase : base ≤ w.heap.size) (is : Bool) (hroom : l.length + 1 ≤ 65536) :
    Calls Try.prog 46 #[.pointer (some ⟨b, 0, none⟩), .bool is] w (Added base w b a (l ++ flagB is)) := by
  go_enter Try.func46, Try.ntmps46
  cases is
  · go_wp2_with fail
    have hk := wbyte_calls h hbase 0 hroom
    refine Calls.mono hk ?_
    rintro e w' ⟨a', X, c', h1, rfl, h3⟩
    go_wp2_with fail
    go_ret
    exact ⟨a', X, c', h1, rfl, h3⟩
  · go_wp2_with fail
    have hk := wbyte_calls h hbase 1 hroom
    refine Calls.mono hk ?_
    rintro e w' ⟨a', X, c', h1, rfl, h3⟩
    go_wp2_with fail
    go_ret
    exact ⟨a', X, c', h1, rfl, h3⟩

/-- Bytes behind their length. -/
def withB (m : List UInt8) : List UInt8 := rowB (qOfW (wOfI m.length)) 4 ++ m
theorem withB_length (m : List UInt8) : (withB m).length = m.length + 4 := by rw [withB, List.length_append, rowB_length, Nat.add_comm]

theorem wbytes_calls {base w b a l c} (h : Wr base w b a l c 0) (hbase : base ≤ w.heap.size) {a1 : Option Addr} {m : List UInt8} {c1 : Nat} (r1 : Row w a1 m c1) (hroom : l.length + 4 + m.length ≤ 65536) :
    Calls Try.prog 47 #[.pointer (some ⟨b, 0, none⟩), .slice a1 m.length c1] w (Added base w b a (l ++ withB m)) := by
  have hq : IntKind.u32.wrap (m.length : Int) = ((wOfI m.length).toNat : Int) := by rw [wrap_u32_eq, wOfI_nat]
  go_enter Try.func47, Try.ntmps47
  go_wp2_with fail
  refine (toXn (rowB_length _ _) (put32_calls _ (wOfI m.length))).mono ?_
  rintro e w1 ⟨a2, X, c2, HX, rfl, hm1, hb1⟩
  have hX : Hid (X.length = 4) := by rw [Hid, HX.out, rowB_length]
  have hk := add2_calls (h.stay hb1) (Nat.le_trans hbase hb1.size) 26 hm1.row (r1.stay hb1) (by intro h0; rw [h0] at hX; exact absurd hX.out (by decide)) (by rw [hX.out]; exact hroom)
  go_wp2_with fail
  refine Calls.mono hk ?_
  rintro e w' hh
  obtain ⟨a', Y, c', h1, rfl, h3⟩ := Added.from hb1 hh
  go_wp2_with fail
  go_ret
  exact ⟨a', Y, c', by rw [Hid, h1.out, HX.out]; rfl, rfl, h3⟩

/-- '[]byte(s)' of a string. -/
theorem string_bytes (w : World) (l : List UInt8) (hl : l.length ≤ 1000000000) : ∃ c w', (convert 9 26 (.string ⟨l.toArray⟩)).run Try.prog w = .ok (.slice (some ⟨w.heap.size, 0, none⟩) l.length c) w' ∧ Row w' (some ⟨w.heap.size, 0, none⟩) l c ∧ Below w.heap.size w w' := by
  have hr := Lib.run_convert_string_bytes (P := Try.prog) w 9 26 5 ⟨l.toArray⟩ Try.underlying9 Try.underlying26 Try.underlying5
  have hz : (⟨l.toArray⟩ : ByteArray).size = l.length := by simp [ByteArray.size]
  refine ⟨_, _, by rw [hz] at hr; exact hr, ⟨by rw [← hz]; exact grownCap_ge _ _ _ _, grownCap_le_maxLen _ _ _ _ (by unfold maxLen; omega), fun h => by simp at h, fun _ => ⟨_, _, rfl⟩, fun i hi => ?_⟩, ⟨?_, ?_, ?_, ?_, fun k hk => Lib.bytesWorld_at_old w _ _ k hk⟩⟩
  · simp only [ad, Nat.zero_add]
    rw [Lib.bytesWorld_cell w _ _ i (by rw [hz]; exact hi)]
    simp [List.getD, hi]
  · unfold Lib.bytesWorld World.freeze; split <;> rfl
  · unfold Lib.bytesWorld World.freeze; split <;> rfl
  · unfold Lib.bytesWorld World.freeze; split <;> rfl
  · rw [Lib.bytesWorld_size]; omega

theorem wtext_calls {base w b a l c} (h : Wr base w b a l c 0) (hbase : base ≤ w.heap.size) (m : List UInt8) (hroom : l.length + 4 + m.length ≤ 65536) :
    Calls Try.prog 48 #[.pointer (some ⟨b, 0, none⟩), .string ⟨m.toArray⟩] w (Added base w b a (l ++ withB m)) := by
  obtain ⟨c1, w1, hr, r1, hb1⟩ := string_bytes w m (by omega)
  have hk := wbytes_calls (h.stay hb1) (Nat.le_trans hbase hb1.size) r1 hroom
  go_enter Try.func48, Try.ntmps48
  go_wp2_with fail
  refine Calls.mono hk ?_
  rintro e w' hh
  obtain ⟨a', Y, c', h1, rfl, h3⟩ := Added.from hb1 hh
  go_wp2_with fail
  go_ret
  exact ⟨a', Y, c', h1, rfl, h3⟩

theorem wtag_calls {base w b a l c} (h : Wr base w b a l c 0) (hbase : base ≤ w.heap.size) (t : List UInt8) (ht : t.length = 32) (hroom : l.length + 32 ≤ 65536) :
    Calls Try.prog 49 #[.pointer (some ⟨b, 0, none⟩), .agg (t.map vb).toArray] w (Added base w b a (l ++ t)) := by
  have hb : Below w.heap.size w (w.alloc (.cells (t.map vb).toArray 29)) := (Below.refl _ _).alloc (Nat.le_refl _) _
  have hk := add1_calls (h.stay hb) (Nat.le_trans hbase hb.size) 26 (row_new w _ 29 (0, 0) t rfl (by omega)) (by intro h0; simp [h0] at ht) (by rw [ht]; exact hroom)
  rw [ht, show (w.alloc (.cells (t.map vb).toArray 29)).heap.size = w.heap.size + 1 by simp] at hk
  clear ht
  generalize (t.map vb).toArray = T at hk hb ⊢
  go_enter Try.func49, Try.ntmps49
  go_wp2_with fail
  refine Calls.mono hk ?_
  rintro e w' hh
  obtain ⟨a', Y, c', h1, rfl, h3⟩ := Added.from hb hh
  go_wp2_with fail
  go_ret
  exact ⟨a', Y, c', h1, rfl, h3⟩
end Go.Proofs.Ytglmijcfdcajkaa
