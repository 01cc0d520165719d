/- Texts of the proof, one behind the other: RefCat, WordsDef, WordsLaw, WordsRow, WordsNum, WordsLoad, Cat, Same. No condition but those that each names. -/
import Derived.Test.YtofagofpeedfcaaGreatProg
import Derived.Test.YtofagofpeedfcaaGreatGa
import Derived.Test.YtofagofpeedfcaaGreatShelf
import Derived.Laws.IdiomStrings
import Derived.Lib.Bytealg
/- The reference's Cat, Copy: walked. -/
namespace Go.Proofs.YtofagofpeedfcaaGreat
open Go Go.RowKit Go.Cit

theorem bt : ByteTypes Tryz.prog 31 5 := ⟨Tryz.underlying31, by intro w; kernel_rfl, by kernel_rfl⟩

theorem take_snoc {α : Type} (l : List α) (k : Nat) (h : k < l.length) : l.take k ++ [l[k]] = l.take (k + 1) := by
  rw [List.take_succ_eq_append_getElem h]

set_option maxHeartbeats 1000000 in
theorem refcat_calls (w : World) (a0 a1 : Option Addr) (l m : List UInt8) (c0 c1 : Nat) (h0 : Row w a0 l c0) (h1 : Row w a1 m c1) (hl : l.length ≤ 400000000) (hm : m.length ≤ 400000000) :
    Calls Tryz.prog 32 #[.slice a0 l.length c0, .slice a1 m.length c1] w fun e w' => ∃ a c, e = .returned (.slice a (l ++ m).length c) ∧ Own 5 w.heap.size w' a (l ++ m) c ∧ Below w.heap.size w w' := by
  go_enter Tryz.func32, Tryz.ntmps32
  go_wp2
  go_loopw [5, 6] (fun o i wr => ∃ (k : Nat) (a : Option Addr) (c : Nat) (x : List UInt8), Hid (x = l.take k) ∧ k ≤ l.length ∧ i = .int .i64 k ∧ o = .slice a x.length c ∧ Own 5 w.heap.size wr a x c ∧ Below w.heap.size w wr) (fun _ i _ => l.length - (intOf i).toNat)
  case atStart => exact ⟨0, none, 0, [], rfl, Nat.zero_le _, rfl, rfl, Own.nil _ _ _, Below.refl _ _⟩
  case round =>
    obtain ⟨k, a, c, x, HX, hk, rfl, rfl, hown, hb⟩ := hrel
    have r0 := h0.stay hb
    have r1 := h1.stay hb
    have hs := hb.size
    have hx : x.length ≤ k := by rw [HX.out]; simp; omega
    have hx9 : x.length ≤ 1000000000 := by omega
    by_cases hlt : k < l.length
    · have i0 := r0.index bt.slice bt.sz k hlt
      have e0 := r0.cell k hlt
      go_wp2_with (at_builtin; refine wp_append_box bt (.tmp 14) (.tmp 19) rfl rfl hown hx9 hs rfl rfl ?_; intro a' c' w' hown' hgr)
      go_roundw
      case rel => exact ⟨k + 1, a', c', x ++ [l[k]], by rw [HX.out, take_snoc l k hlt]; rfl, by omega, by go_num, by simp, hown', hb.grown hgr hs (fun j hj => (hown.blk_ge hj).1)⟩
      case measure => simp [intOf]; omega
    · have hk2 : k = l.length := by omega
      have HX2 : Hid (x = l) := by rw [Hid, HX.out, hk2, List.take_length]
      clear HX hk2
      go_wp2
      go_loopw [5, 7] (fun o i wr => ∃ (k : Nat) (a : Option Addr) (c : Nat) (x : List UInt8), Hid (x = l ++ m.take k) ∧ k ≤ m.length ∧ i = .int .i64 k ∧ o = .slice a x.length c ∧ Own 5 w.heap.size wr a x c ∧ Below w.heap.size w wr) (fun _ i _ => m.length - (intOf i).toNat)
      case atStart => exact ⟨0, a, c, x, by rw [HX2.out]; simp [Hid], Nat.zero_le _, rfl, rfl, hown, hb⟩
      case round =>
        clear hs hx hx9 r0 r1 hown hb HX2 hlt hk
        obtain ⟨k, a, c, x, HX, hk, rfl, rfl, hown, hb⟩ := hrel
        have r1 := h1.stay hb
        have hs := hb.size
        have hx : x.length ≤ l.length + k := by rw [HX.out]; simp; omega
        have hx9 : x.length ≤ 1000000000 := by omega
        by_cases hlt : k < m.length
        · have i0 := r1.index bt.slice bt.sz k hlt
          have e0 := r1.cell k hlt
          go_wp2_with (at_builtin; refine wp_append_box bt (.tmp 27) (.tmp 32) rfl rfl hown hx9 hs rfl rfl ?_; intro a' c' w' hown' hgr)
          go_roundw
          case rel => exact ⟨k + 1, a', c', x ++ [m[k]], by rw [HX.out, List.append_assoc, take_snoc m k hlt]; rfl, by omega, by go_num, by simp, hown', hb.grown hgr hs (fun j hj => (hown.blk_ge hj).1)⟩
          case measure => simp [intOf]; omega
        · have hk2 : k = m.length := by omega
          have HX2 : Hid (x = l ++ m) := by rw [Hid, HX.out, hk2, List.take_length]
          clear HX hk2
          go_wp2
          go_ret
          have e := HX2.out
          subst e
          exact ⟨a, c, rfl, hown, hb⟩

theorem copy_calls (w : World) (a0 : Option Addr) (l : List UInt8) (c0 : Nat) (h0 : Row w a0 l c0) (hl : l.length ≤ 400000000) :
    Calls Tryz.prog 9 #[.slice a0 l.length c0] w fun e w' => ∃ a c, e = .returned (.slice a l.length c) ∧ Own 5 w.heap.size w' a l c ∧ Below w.heap.size w w' := by
  have hc := refcat_calls w none a0 [] l 0 c0 (Row.nil_ w) h0 (by simp) hl
  simp only [List.nil_append, List.length_nil] at hc
  go_enter Tryz.func9, Tryz.ntmps9
  go_wp2_with (go_at_call 32; refine hc.mono ?_; rintro e w' ⟨a, c, rfl, ho, hb⟩)
  go_ret
  exact ⟨a, c, rfl, ho, hb⟩
end Go.Proofs.YtofagofpeedfcaaGreat

/- Numbers and their rows, as plain functions. No condition. -/
namespace Go.Cit

/-- x divided by 256 k times. -/
def dv : Nat → UInt64 → UInt64
  | 0, x => x
  | k + 1, x => qDiv (dv k x) (qI 256)
/-- The row of n bytes, the last byte being x's lowest. -/
def rowB (x : UInt64) : Nat → List UInt8
  | 0 => []
  | k + 1 => bOfQ (dv k x) :: rowB x k
theorem rowB_length (x : UInt64) : ∀ n, (rowB x n).length = n
  | 0 => rfl
  | n + 1 => by rw [rowB, List.length_cons, rowB_length x n]

/-- The number of a row, digit by digit from the front on. -/
def numB (l : List UInt8) : UInt64 := l.foldl (fun x d => qAdd (qMul (qI 256) x) (qOfB d)) (qI 0)

/-- As the reference reckons it: from the back. -/
def numStep (s : UInt64 × UInt64) (d : UInt8) : UInt64 × UInt64 := (qAdd s.1 (qMul s.2 (qOfB d)), qMul s.2 (qI 256))
def numR (l : List UInt8) : UInt64 × UInt64 := l.reverse.foldl numStep (qI 0, qI 1)

theorem bOfQ_mod (x : UInt64) : bOfQ (qMod x (qI 256)) = bOfQ x := by
  apply UInt8.toNat_inj.1
  unfold bOfQ qMod
  rw [UInt64.toNat_toUInt8, UInt64.toNat_toUInt8, UInt64.toNat_mod]
  exact Nat.mod_mod _ _

/-! The two numbers are one. -/
theorem numR_cons (d : UInt8) (l : List UInt8) : numR (d :: l) = numStep (numR l) d := by
  unfold numR; rw [List.reverse_cons, List.foldl_append]; rfl
def unitR : Nat → UInt64
  | 0 => 1
  | n + 1 => unitR n * 256
theorem numR_snd : ∀ l : List UInt8, (numR l).2 = unitR l.length
  | [] => rfl
  | d :: l => by rw [numR_cons]; show qMul (numR l).2 (qI 256) = _; rw [numR_snd l]; rfl
def stepF (x : UInt64) (d : UInt8) : UInt64 := qAdd (qMul (qI 256) x) (qOfB d)
theorem fold_shift : ∀ (l : List UInt8) (x : UInt64), l.foldl stepF x = x * unitR l.length + l.foldl stepF 0
  | [], x => by show x = x * 1 + 0; simp
  | d :: l, x => by
    rw [List.foldl_cons, List.foldl_cons, fold_shift l (stepF x d), fold_shift l (stepF 0 d)]
    show (256 * x + d.toUInt64) * unitR l.length + _ = x * (unitR l.length * 256) + ((256 * 0 + d.toUInt64) * unitR l.length + _)
    rw [← UInt64.add_assoc]
    congr 1
    rw [UInt64.mul_zero, UInt64.zero_add, UInt64.add_mul]
    congr 1
    rw [UInt64.mul_comm 256 x, UInt64.mul_assoc, UInt64.mul_comm 256]
theorem numR_eq : ∀ l : List UInt8, (numR l).1 = numB l
  | [] => rfl
  | d :: l => by
    rw [numR_cons]
    show (numR l).1 + (numR l).2 * d.toUInt64 = _
    rw [numR_eq l, numR_snd l]
    show numB l + unitR l.length * d.toUInt64 = List.foldl stepF (256 * 0 + d.toUInt64) l
    rw [fold_shift l, UInt64.mul_zero, UInt64.zero_add, UInt64.add_comm, UInt64.mul_comm]
    rfl
end Go.Cit

/- Plain laws of numbers and rows. No condition. -/
namespace Go.Cit

theorem dv_toNat (x : UInt64) : ∀ k, (dv k x).toNat = x.toNat / 256 ^ k
  | 0 => by simp [dv]
  | k + 1 => by
    show (dv k x / qI 256).toNat = _
    rw [UInt64.toNat_div, dv_toNat x k, Nat.div_div_eq_div_mul, Nat.pow_succ]; rfl
theorem byte_dv (x : UInt64) (k : Nat) : (bOfQ (dv k x)).toNat = x.toNat / 256 ^ k % 256 := by
  unfold bOfQ; rw [UInt64.toNat_toUInt8, dv_toNat]

theorem rowB_low (x : UInt64) : rowB (qOfW (wOfQ x)) 4 = rowB x 4 := by
  have e : (qOfW (wOfQ x)).toNat = x.toNat % 4294967296 := by
    unfold qOfW wOfQ; rw [UInt32.toNat_toUInt64, UInt64.toNat_toUInt32]
  have h : ∀ k, k < 4 → bOfQ (dv k (qOfW (wOfQ x))) = bOfQ (dv k x) := by
    intro k hk
    apply UInt8.toNat_inj.1
    rw [byte_dv, byte_dv, e]
    match k, hk with
    | 0, _ => simp only [Nat.pow_zero]; omega
    | 1, _ => simp only [Nat.pow_one]; omega
    | 2, _ => show x.toNat % 4294967296 / 65536 % 256 = x.toNat / 65536 % 256; omega
    | 3, _ => show x.toNat % 4294967296 / 16777216 % 256 = x.toNat / 16777216 % 256; omega
  simp only [rowB]
  rw [h 0 (by decide), h 1 (by decide), h 2 (by decide), h 3 (by decide)]

/-- The number of a row, not wrapped. -/
def numN (l : List UInt8) : Nat := l.foldl (fun x d => 256 * x + d.toNat) 0
theorem foldN_lt : ∀ (l : List UInt8) (x : Nat), l.foldl (fun x d => 256 * x + d.toNat) x < 256 ^ l.length * (x + 1)
  | [], x => by simp
  | d :: l, x => by
    have h := foldN_lt l (256 * x + d.toNat)
    have hd := b_lt d
    rw [List.foldl_cons, List.length_cons, Nat.pow_succ, Nat.mul_assoc]
    refine Nat.lt_of_lt_of_le h (Nat.mul_le_mul_left _ (by omega))
theorem numN_lt (l : List UInt8) : numN l < 256 ^ l.length := by
  have := foldN_lt l 0; simpa [numN] using this
theorem foldB_mod : ∀ (l : List UInt8) (x : UInt64) (y : Nat), x.toNat = y % 18446744073709551616 → (l.foldl stepF x).toNat = l.foldl (fun x d => 256 * x + d.toNat) y % 18446744073709551616
  | [], x, y, h => h
  | d :: l, x, y, h => by
    rw [List.foldl_cons, List.foldl_cons]
    refine foldB_mod l _ _ ?_
    show (256 * x + d.toUInt64).toNat = _
    rw [UInt64.toNat_add, UInt64.toNat_mul, UInt8.toNat_toUInt64, h]
    show (256 * (y % 18446744073709551616) % 18446744073709551616 + d.toNat) % 18446744073709551616 = _
    omega
theorem numB_toNat (l : List UInt8) (h : l.length ≤ 8) : (numB l).toNat = numN l := by
  have e := foldB_mod l 0 0 rfl
  have h1 : numN l < 18446744073709551616 := Nat.lt_of_lt_of_le (numN_lt l) (Nat.pow_le_pow_right (by decide) h)
  show (l.foldl stepF 0).toNat = _
  rw [e]; exact Nat.mod_eq_of_lt h1
theorem numB_lt (l : List UInt8) (n : Nat) (h : l.length ≤ n) (h8 : n ≤ 8) : (numB l).toNat < 256 ^ n := by
  rw [numB_toNat l (by omega)]; exact Nat.lt_of_lt_of_le (numN_lt l) (Nat.pow_le_pow_right (by decide) h)
theorem narrow (x : UInt64) (h : x.toNat < 4294967296) : qOfW (wOfQ x) = x := by
  apply UInt64.toNat_inj.1
  unfold qOfW wOfQ; rw [UInt32.toNat_toUInt64, UInt64.toNat_toUInt32]; exact Nat.mod_eq_of_lt h
end Go.Cit

/- words.Row, words.Number, words.load, Load32, Load64, Put32, Put64: walked. -/
namespace Go.Proofs.YtofagofpeedfcaaGreat
open Go Go.RowKit Go.Cit

theorem zeros_rowB (x : UInt64) (n k : Nat) (h : k < n) : (List.replicate (n - k) 0 ++ rowB x k).set (n - k - 1) (bOfQ (dv k x)) = List.replicate (n - (k + 1)) 0 ++ rowB x (k + 1) := by
  obtain ⟨m, hm⟩ : ∃ m, n - k = m + 1 := ⟨n - k - 1, by omega⟩
  rw [hm, show n - (k + 1) = m from by omega, Nat.add_sub_cancel, List.replicate_succ', List.append_assoc, List.set_append_right _ _ (by simp)]
  simp [rowB]

set_option maxHeartbeats 1000000 in
theorem row_calls (w : World) (x : UInt64) (n : Nat) (h1 : 1 ≤ n) (h8 : n ≤ 8) :
    Calls Tryz.prog 93 #[vq x, .int .i64 n] w fun e w' => ∃ a c, e = .returned (.slice a n c) ∧ Own 5 w.heap.size w' a (rowB x n) c ∧ Below w.heap.size w w' := by
  have t1 : decide ((n : Int) < 1) = false := by simp; omega
  have t2 : decide (8 < (n : Int)) = false := by simp; omega
  go_enter Tryz.func93, Tryz.ntmps93
  go_wp2_with (refine wp_make_bytes bt (.tmp 12) (.tmp 12) rfl rfl n .i64 .i64 rfl rfl rfl (by omega) ?_; intro w1 hown hgr hsz)
  go_loopw [0, 1] (fun y i wr => ∃ (k : Nat) (l : List UInt8), Hid (l = List.replicate (n - k) 0 ++ rowB x k) ∧ Hid (l.length = n) ∧ k ≤ n ∧ i = .int .i64 ((n : Int) - k - 1) ∧ y = vq (dv k x) ∧ Own 5 w.heap.size wr (some ⟨w.heap.size, 0, none⟩) l n ∧ Below w.heap.size w wr) (fun _ i _ => (intOf i + 1).toNat)
  case atStart => exact ⟨0, List.replicate n 0, by simp [Hid, rowB], by simp [Hid], Nat.zero_le _, by go_num, rfl, hown, grown_below hgr (Nat.le_refl _) (by simp)⟩
  case round =>
    clear hown hgr hsz
    obtain ⟨k, l, HX, HL, hk, rfl, rfl, hown, hb⟩ := hrel
    by_cases hlt : k < n
    · have hi : n - k - 1 < l.length := by rw [HL.out]; omega
      have i0 := hown.isRow.index bt.slice bt.sz (n - k - 1) hi
      have e0 := hown.isRow.cell (n - k - 1) hi
      have f0 := hown.frozen (n - k - 1) hi
      have ei : ((n : Int) - k - 1) = ((n - k - 1 : Nat) : Int) := by omega
      rw [HL.out, ← ei] at i0
      have hst := hown.stored (n - k - 1) hi (bOfQ (dv k x))
      clear ei
      have HST := Lib.hid hst
      clear hst
      go_wp2
      go_roundw
      case rel =>
        exact ⟨k + 1, l.set (n - k - 1) (bOfQ (dv k x)), by rw [Hid, HX.out]; exact zeros_rowB x n k hlt, by rw [Hid, List.length_set]; exact HL.out, by omega, by go_num, rfl, HST.out.1, hb.grown HST.out.2 hb.size (fun j hj => (hown.blk_ge hj).1)⟩
      case measure => simp [intOf]; omega
    · have hk2 : k = n := by omega
      subst hk2
      have HX2 : Hid (l = rowB x k) := by rw [Hid, HX.out]; simp
      clear HX
      go_wp2
      go_ret
      refine ⟨_, _, rfl, ?_, hb⟩
      rw [← HX2.out]; exact hown

theorem row_none (w : World) (x : UInt64) (n : Int) (h : n < 1 ∨ 8 < n) :
    Calls Tryz.prog 93 #[vq x, .int .i64 n] w fun e w' => e = .returned (.slice none 0 0) ∧ w' = w := by
  by_cases h1 : n < 1
  · go_enter Tryz.func93, Tryz.ntmps93
    go_wp2
    go_ret
    exact ⟨rfl, rfl⟩
  · have h8 : 8 < n := by omega
    go_enter Tryz.func93, Tryz.ntmps93
    go_wp2
    go_ret
    exact ⟨rfl, rfl⟩

set_option maxHeartbeats 1000000 in
theorem refput_calls (w : World) (x : UInt64) (n : Nat) (h8 : n ≤ 8) :
    Calls Tryz.prog 60 #[vq x, .int .i64 n] w fun e w' => ∃ a c, e = .returned (.slice a n c) ∧ Own 5 w.heap.size w' a (rowB x n) c ∧ Below w.heap.size w w' := by
  go_enter Tryz.func60, Tryz.ntmps60
  go_wp2
  go_loopw [0, 5, 6] (fun y t i wr => ∃ (k : Nat) (a : Option Addr) (c : Nat) (l : List UInt8), Hid (l = (rowB x k).reverse) ∧ Hid (l.length = k) ∧ k ≤ n ∧ i = .int .i64 k ∧ y = vq (dv k x) ∧ t = .slice a l.length c ∧ Own 5 w.heap.size wr a l c ∧ Below w.heap.size w wr) (fun _ _ i _ => n - (intOf i).toNat)
  case atStart => exact ⟨0, none, 0, [], rfl, rfl, Nat.zero_le _, rfl, rfl, rfl, Own.nil _ _ _, Below.refl _ _⟩
  case round =>
    obtain ⟨k, a, c, l, HX, HL, hk, rfl, rfl, rfl, hown, hb⟩ := hrel
    have hs := hb.size
    have hl9 : l.length ≤ 1000000000 := by rw [HL.out]; omega
    by_cases hlt : k < n
    · go_wp2_with (at_builtin; refine wp_append_box bt (.tmp 14) (.tmp 18) rfl rfl hown hl9 hs rfl rfl ?_; intro a' c' w' hown' hgr)
      go_roundw
      case rel => exact ⟨k + 1, a', c', l ++ [bOfQ (qMod (dv k x) (qI 256))], by rw [Hid, HX.out, bOfQ_mod, rowB, List.reverse_cons], by rw [Hid, List.length_append, HL.out]; rfl, by omega, by go_num, rfl, by simp, hown', hb.grown hgr hs (fun j hj => (hown.blk_ge hj).1)⟩
      case measure => simp [intOf]; omega
    · have hk2 : k = n := by omega
      subst hk2
      have hlk : l.length ≤ 8 := by rw [HL.out]; omega
      go_wp2
      go_loopw [7, 8] (fun t i wx => ∃ (j : Nat) (a2 : Option Addr) (c2 : Nat) (m : List UInt8), Hid (m = (rowB x k).take j) ∧ Hid (m.length = j) ∧ j ≤ l.length ∧ i = .int .i64 ((l.length : Int) - 1 - j) ∧ t = .slice a2 m.length c2 ∧ Own 5 wr.heap.size wx a2 m c2 ∧ Below wr.heap.size wr wx) (fun _ i _ => (intOf i + 1).toNat)
      case atStart => exact ⟨0, none, 0, [], rfl, rfl, Nat.zero_le _, by go_num, rfl, Own.nil _ _ _, Below.refl _ _⟩
      case round =>
        obtain ⟨j, a2, c2, m, HM, HN, hj, rfl, rfl, hown2, hb2⟩ := hrel
        have hs2 := hb2.size
        have r1 := hown.isRow.stay hb2
        have hm9 : m.length ≤ 1000000000 := by rw [HN.out]; omega
        by_cases hlt2 : j < l.length
        · have hi : l.length - 1 - j < l.length := by omega
          have i0 := r1.index bt.slice bt.sz (l.length - 1 - j) hi
          have e0 := r1.cell (l.length - 1 - j) hi
          have ei : ((l.length : Int) - 1 - j) = ((l.length - 1 - j : Nat) : Int) := by omega
          rw [← ei] at i0
          clear ei
          obtain ⟨b, hbb⟩ : ∃ b, l[l.length - 1 - j] = b := ⟨_, rfl⟩
          rw [hbb] at e0
          have HB : Hid ((rowB x k).take j ++ [b] = (rowB x k).take (j + 1)) := by
            have hjr : j < (rowB x k).length := by rw [rowB_length]; have := HL.out; omega
            rw [Hid, ← take_snoc _ j hjr, ← hbb]
            congr 2
            have := HX.out
            subst this
            rw [List.getElem_reverse]
            congr 1
            simp at hlt2 ⊢
            omega
          clear hbb
          go_wp2_with (at_builtin; refine wp_append_box bt (.tmp 29) (.tmp 34) rfl rfl hown2 hm9 hs2 rfl rfl ?_; intro a' c' w' hown' hgr)
          go_roundw
          case rel => exact ⟨j + 1, a', c', m ++ [b], by rw [Hid, HM.out]; exact HB.out, by rw [Hid, List.length_append, HN.out]; rfl, by omega, by go_num, by simp, hown', hb2.grown hgr hs2 (fun j hj => (hown2.blk_ge hj).1)⟩
          case measure => simp [intOf]; omega
        · have hj2 : j = l.length := by omega
          have HM2 : Hid (m = rowB x k) := by rw [Hid, HM.out, hj2, HL.out]; exact List.take_of_length_le (by rw [rowB_length]; exact Nat.le_refl _)
          have HN2 : Hid (m.length = k) := by rw [Hid, HN.out, hj2, HL.out]
          clear HM HN hj2
          go_wp2
          go_ret
          refine ⟨a2, c2, by rw [← HN2.out]; rfl, ?_, hb.trans (hb2.mono hs)⟩
          rw [← HM2.out]; exact hown2.low hs
end Go.Proofs.YtofagofpeedfcaaGreat

/- words.Number, words.load, Load32, Load64, Put32, Put64 and the reference's Number, Load: walked. -/
namespace Go.Proofs.YtofagofpeedfcaaGreat
open Go Go.RowKit Go.Cit

/-- The number of a row, and whether it has one. -/
def numV (l : List UInt8) : UInt64 := if 1 ≤ l.length ∧ l.length ≤ 8 then numB l else 0
def numOk (l : List UInt8) : Bool := decide (1 ≤ l.length ∧ l.length ≤ 8)

theorem ret_qb {a b : UInt64} {s t : Bool} (h : a = b) (k : s = t) : Ending.returned (.tuple #[vq a, .bool s]) = .returned (.tuple #[vq b, .bool t]) := by rw [h, k]
theorem ret_wb {a b : UInt32} {s t : Bool} (h : a = b) (k : s = t) : Ending.returned (.tuple #[vw a, .bool s]) = .returned (.tuple #[vw b, .bool t]) := by rw [h, k]

set_option maxHeartbeats 1000000 in
theorem number_calls (w : World) (a0 : Option Addr) (l : List UInt8) (c0 : Nat) (h0 : Row w a0 l c0) :
    Calls Tryz.prog 116 #[.slice a0 l.length c0] w fun e w' => e = .returned (.tuple #[vq (numV l), .bool (numOk l)]) ∧ w' = w := by
  have b0 := h0.len_le
  by_cases h1 : l.length < 1
  · have HV : Hid ((0 : UInt64) = numV l ∧ false = numOk l) := ⟨by rw [numV, if_neg (by omega)], by rw [numOk]; simp; omega⟩
    go_enter Tryz.func116, Tryz.ntmps116
    go_wp2
    go_ret2
    exact ⟨ret_qb HV.out.1 HV.out.2, rfl⟩
  by_cases h8 : 8 < l.length
  · have HV : Hid ((0 : UInt64) = numV l ∧ false = numOk l) := ⟨by rw [numV, if_neg (by omega)], by rw [numOk]; simp; omega⟩
    go_enter Tryz.func116, Tryz.ntmps116
    go_wp2
    go_ret2
    exact ⟨ret_qb HV.out.1 HV.out.2, rfl⟩
  have HV : Hid (numB l = numV l ∧ true = numOk l) := ⟨by rw [numV, if_pos (by omega)], by rw [numOk]; simp; omega⟩
  go_enter Tryz.func116, Tryz.ntmps116
  go_wp2
  go_loop [4, 17] (fun s i => ∃ (k : Nat) (d : UInt64), Hid (d = (l.take k).foldl stepF (qI 0)) ∧ k ≤ l.length ∧ i = .int .i64 k ∧ s = vq d) (fun _ i => l.length - (intOf i).toNat)
  case atStart => exact ⟨0, _, rfl, Nat.zero_le _, rfl, rfl⟩
  case round =>
    obtain ⟨k, d, HD, hk, rfl, rfl⟩ := hrel
    by_cases hlt : k < l.length
    · have i0 := h0.index bt.slice bt.sz k hlt
      have e0 := h0.cell k hlt
      go_wp2
      go_round
      case rel => exact ⟨k + 1, stepF d l[k], by rw [Hid, ← take_snoc l k hlt, List.foldl_append, ← HD.out]; rfl, by omega, by go_num, rfl⟩
      case measure => simp [intOf]; omega
    · have hk2 : k = l.length := by omega
      have HD2 : Hid (d = numB l) := by rw [Hid, HD.out, hk2, List.take_length]; rfl
      clear HD hk2
      go_wp2
      go_ret2
      exact ⟨ret_qb (HD2.out.trans HV.out.1) HV.out.2, rfl⟩

set_option maxHeartbeats 1000000 in
theorem refnumber_calls (w : World) (a0 : Option Addr) (l : List UInt8) (c0 : Nat) (h0 : Row w a0 l c0) :
    Calls Tryz.prog 89 #[.slice a0 l.length c0] w fun e w' => e = .returned (.tuple #[vq (numV l), .bool (numOk l)]) ∧ w' = w := by
  have b0 := h0.len_le
  by_cases h1 : l.length = 0
  · have HV : Hid ((0 : UInt64) = numV l ∧ false = numOk l) := ⟨by rw [numV, if_neg (by omega)], by rw [numOk]; simp; omega⟩
    have t1 : ((l.length : Int) == 0) = true := by simp; exact List.eq_nil_of_length_eq_zero h1
    clear h1
    go_enter Tryz.func89, Tryz.ntmps89
    go_wp2
    go_ret2
    exact ⟨ret_qb HV.out.1 HV.out.2, rfl⟩
  have t1 : ((l.length : Int) == 0) = false := by simp; intro h; simp [h] at h1
  by_cases h8 : 8 < l.length
  · have HV : Hid ((0 : UInt64) = numV l ∧ false = numOk l) := ⟨by rw [numV, if_neg (by omega)], by rw [numOk]; simp; omega⟩
    go_enter Tryz.func89, Tryz.ntmps89
    go_wp2
    go_ret2
    exact ⟨ret_qb HV.out.1 HV.out.2, rfl⟩
  have HV : Hid ((numR l).1 = numV l ∧ true = numOk l) := ⟨by rw [numV, if_pos (by omega), numR_eq], by rw [numOk]; simp; omega⟩
  have h1' : 1 ≤ l.length := by omega
  clear h1
  go_enter Tryz.func89, Tryz.ntmps89
  go_wp2
  go_loop [4, 5, 6] (fun s u i => ∃ (k : Nat) (p : UInt64 × UInt64), Hid (p = (l.reverse.take k).foldl numStep (qI 0, qI 1)) ∧ k ≤ l.length ∧ i = .int .i64 ((l.length : Int) - 1 - k) ∧ s = vq p.1 ∧ u = vq p.2) (fun _ _ i => (intOf i + 1).toNat)
  case atStart => exact ⟨0, _, rfl, Nat.zero_le _, by go_num, rfl, rfl⟩
  case round =>
    obtain ⟨k, ⟨d, u⟩, HD, hk, rfl, rfl, rfl⟩ := hrel
    by_cases hlt : k < l.length
    · have hi : l.length - 1 - k < l.length := by omega
      have i0 := h0.index bt.slice bt.sz (l.length - 1 - k) hi
      have e0 := h0.cell (l.length - 1 - k) hi
      have ei : ((l.length : Int) - 1 - k) = ((l.length - 1 - k : Nat) : Int) := by omega
      rw [← ei] at i0
      clear ei
      obtain ⟨b, hb⟩ : ∃ b, l[l.length - 1 - k] = b := ⟨_, rfl⟩
      rw [hb] at e0
      have HB : Hid ((l.reverse.take (k + 1)).foldl numStep (qI 0, qI 1) = numStep (d, u) b) := by
        have hr : k < l.reverse.length := by simpa using hlt
        rw [Hid, ← take_snoc l.reverse k hr, List.foldl_append, ← HD.out, List.getElem_reverse, ← hb]; rfl
      clear hb
      go_wp2
      go_round
      case rel => exact ⟨k + 1, numStep (d, u) b, by rw [Hid, HB.out], by omega, by go_num, rfl, rfl⟩
      case measure => simp [intOf]; omega
    · have hk2 : k = l.length := by omega
      have HD2 : Hid (d = (numR l).1) := by
        have := HD.out
        rw [hk2, List.take_of_length_le (by simp)] at this
        rw [Hid, numR, ← this]
      clear HD
      go_wp2
      go_ret2
      exact ⟨ret_qb (HD2.out.trans HV.out.1) HV.out.2, rfl⟩

/-- The number of n bytes that begins at a place. -/
def loadB (l : List UInt8) (at_ : Int) (n : Nat) : UInt64 × Bool :=
  if 0 ≤ at_ ∧ at_ + n ≤ l.length then (numB ((l.drop at_.toNat).take n), true) else (0, false)

set_option maxHeartbeats 1000000 in
theorem load_calls (w : World) (a0 : Option Addr) (l : List UInt8) (c0 : Nat) (t m : Int) (n : Nat) (hm : m = (n : Int)) (h1 : 1 ≤ n) (h8 : n ≤ 8) (h0 : Row w a0 l c0) :
    Calls Tryz.prog 109 #[.slice a0 l.length c0, .int .i64 t, .int .i64 m] w fun e w' => e = .returned (.tuple #[vq (loadB l t n).1, .bool (loadB l t n).2]) ∧ w' = w := by
  subst hm
  have b0 := h0.len_le
  by_cases ht : 0 ≤ t ∧ t ≤ l.length
  · obtain ⟨k, rfl⟩ := Int.eq_ofNat_of_zero_le ht.1
    have hk : k ≤ l.length := by omega
    obtain ⟨a1, m1, c1, hm1, hrun, r1⟩ := h0.from_ bt.slice bt.sz k hk
    have hl1 : m1.length = l.length - k := by rw [hm1, List.length_drop]
    have HM := Lib.hid hm1
    have g1 : decide ((k : Int) < 0) = false := by simp
    have g2 : decide (l.length < k) = false := by simpa using hk
    by_cases hn : k + n ≤ l.length
    · obtain ⟨a2, m2, c2, hm2, hrun2, r2⟩ := r1.upto bt.slice bt.sz n (by omega)
      have HV : Hid (numV m2 = (loadB l k n).1 ∧ numOk m2 = (loadB l k n).2) := by
        have hl2 : m2.length = n := by rw [hm2, List.length_take]; omega
        rw [Hid, loadB, if_pos (by omega), numV, numOk, if_pos (by omega), hm2, hm1]
        exact ⟨rfl, by simp; omega⟩
      have g3 : decide (m1.length < n) = false := by simp; omega
      have b1 := r1.len_le
      clear hm1 hm2 hl1 hk ht
      go_enter Tryz.func109, Tryz.ntmps109
      go_wp2_with (go_at_call 116; refine (number_calls _ _ _ _ r2).mono ?_; rintro e w' ⟨rfl, rfl⟩)
      go_ret2
      exact ⟨ret_qb HV.out.1 HV.out.2, rfl⟩
    · have HV : Hid ((0 : UInt64) = (loadB l k n).1 ∧ false = (loadB l k n).2) := by
        rw [Hid, loadB, if_neg (by omega)]; exact ⟨rfl, rfl⟩
      have g3 : decide (m1.length < n) = true := by simp; omega
      have b1 := r1.len_le
      clear hm1 hl1 hk ht hn
      go_enter Tryz.func109, Tryz.ntmps109
      go_wp2_with fail
      go_ret2
      exact ⟨ret_qb HV.out.1 HV.out.2, rfl⟩
  · have HV : Hid ((0 : UInt64) = (loadB l t n).1 ∧ false = (loadB l t n).2) := by
      rw [Hid, loadB, if_neg (by omega)]; exact ⟨rfl, rfl⟩
    by_cases hneg : t < 0
    · have g1 : decide (t < 0) = true := by simpa using hneg
      go_enter Tryz.func109, Tryz.ntmps109
      go_wp2_with fail
      go_ret2
      exact ⟨ret_qb HV.out.1 HV.out.2, rfl⟩
    · have g1 : decide (t < 0) = false := by simp; omega
      have g2 : decide ((l.length : Int) < t) = true := by simp; omega
      go_enter Tryz.func109, Tryz.ntmps109
      go_wp2_with fail
      go_ret2
      exact ⟨ret_qb HV.out.1 HV.out.2, rfl⟩
end Go.Proofs.YtofagofpeedfcaaGreat

/- words.Load32, Load64, Put32, Put64 and the reference's Load: walked. -/
namespace Go.Proofs.YtofagofpeedfcaaGreat
open Go Go.RowKit Go.Cit

theorem load32_calls (w : World) (a0 : Option Addr) (l : List UInt8) (c0 : Nat) (t : Int) (h0 : Row w a0 l c0) :
    Calls Tryz.prog 94 #[.slice a0 l.length c0, .int .i64 t] w fun e w' => e = .returned (.tuple #[vw (wOfQ (loadB l t 4).1), .bool (loadB l t 4).2]) ∧ w' = w := by
  go_enter Tryz.func94, Tryz.ntmps94
  go_wp2_with (go_at_call 109; refine (load_calls _ _ _ _ _ _ 4 rfl (by decide) (by decide) h0).mono ?_; rintro e w' ⟨rfl, rfl⟩)
  go_ret2
  exact ⟨rfl, rfl⟩

theorem put32_calls (w : World) (x : UInt32) :
    Calls Tryz.prog 85 #[vw x] w fun e w' => ∃ a c, e = .returned (.slice a 4 c) ∧ Own 5 w.heap.size w' a (rowB (qOfW x) 4) c ∧ Below w.heap.size w w' := by
  have hc := row_calls w (qOfW x) 4 (by decide) (by decide)
  go_enter Tryz.func85, Tryz.ntmps85
  go_wp2_with (go_at_call 93; refine hc.mono ?_; rintro e w' ⟨a, c, rfl, ho, hb⟩)
  go_ret
  exact ⟨a, c, rfl, ho, hb⟩

theorem put64_calls (w : World) (x : UInt64) :
    Calls Tryz.prog 82 #[vq x] w fun e w' => ∃ a c, e = .returned (.slice a 8 c) ∧ Own 5 w.heap.size w' a (rowB x 8) c ∧ Below w.heap.size w w' := by
  have hc := row_calls w x 8 (by decide) (by decide)
  go_enter Tryz.func82, Tryz.ntmps82
  go_wp2_with (go_at_call 93; refine hc.mono ?_; rintro e w' ⟨a, c, rfl, ho, hb⟩)
  go_ret
  exact ⟨a, c, rfl, ho, hb⟩

set_option maxHeartbeats 1000000 in
theorem refload_calls (w : World) (a0 : Option Addr) (l : List UInt8) (c0 : Nat) (t m : Int) (n : Nat) (hm : m = (n : Int)) (h1 : 1 ≤ n) (h8 : n ≤ 8) (ht : -9223372036854775808 ≤ t ∧ t ≤ 9223372036854775807) (h0 : Row w a0 l c0) :
    Calls Tryz.prog 75 #[.slice a0 l.length c0, .int .i64 t, .int .i64 m] w fun e w' => e = .returned (.tuple #[vq (loadB l t n).1, .bool (loadB l t n).2]) ∧ w' = w := by
  subst hm
  have b0 := h0.len_le
  by_cases hok : 0 ≤ t ∧ t + n ≤ l.length
  · obtain ⟨k, rfl⟩ := Int.eq_ofNat_of_zero_le hok.1
    obtain ⟨a2, m2, c2, hm2, hrun2, r2⟩ := h0.part bt.slice bt.sz k (k + n) (by omega) (by omega)
    have HV : Hid (numV m2 = (loadB l k n).1 ∧ numOk m2 = (loadB l k n).2) := by
      have e : m2 = (l.drop k).take n := by rw [hm2, List.drop_take]; congr 1; omega
      have hl2 : m2.length = n := by rw [e, List.length_take, List.length_drop]; omega
      rw [Hid, loadB, if_pos (by omega), numV, numOk, if_pos (by omega), e]
      exact ⟨rfl, by simp; omega⟩
    have g1 : decide ((k : Int) < 0) = false := by simp
    have g2 : decide ((l.length : Int) - n < k) = false := by simp; omega
    have g3 : decide (l.length < n) = false := by simp; omega
    rw [show ((k + n : Nat) : Int) = (k : Int) + n by omega] at hrun2
    clear hm2
    go_enter Tryz.func75, Tryz.ntmps75
    go_wp2_with (go_at_call 89; refine (refnumber_calls _ _ _ _ r2).mono ?_; rintro e w' ⟨rfl, rfl⟩)
    go_ret2
    exact ⟨ret_qb HV.out.1 HV.out.2, rfl⟩
  · have HV : Hid ((0 : UInt64) = (loadB l t n).1 ∧ false = (loadB l t n).2) := by
      rw [Hid, loadB, if_neg hok]; exact ⟨rfl, rfl⟩
    by_cases hneg : t < 0
    · have g1 : decide (t < 0) = true := by simpa using hneg
      go_enter Tryz.func75, Tryz.ntmps75
      go_wp2_with fail
      go_ret2
      exact ⟨ret_qb HV.out.1 HV.out.2, rfl⟩
    · have g1 : decide (t < 0) = false := by simp; omega
      by_cases hl : (l.length : Int) - n < t
      · have g2 : decide ((l.length : Int) - n < t) = true := by simp; omega
        go_enter Tryz.func75, Tryz.ntmps75
        go_wp2_with fail
        go_ret2
        exact ⟨ret_qb HV.out.1 HV.out.2, rfl⟩
      · omega
end Go.Proofs.YtofagofpeedfcaaGreat

/- words.Cat (bytes.Join without a separator, by the shelf's contract), words.Same, words.Ahead: contracts. -/
namespace Go.Proofs.YtofagofpeedfcaaGreat
open Go Go.RowKit Go.Cit

theorem join_flat : ∀ ls : List (List UInt8), Lib.join ls [] = ls.flatten
  | [] => rfl
  | [x] => by simp [Lib.join_one]
  | x :: y :: ls => by
    have h := join_flat (y :: ls)
    simp only [Lib.join, List.intercalate] at h ⊢
    rw [List.intersperse_cons_cons]
    simp [h]
theorem lens_flat (ls : List (List UInt8)) : Lib.lens ls = ls.flatten.length := by
  simp [Lib.lens, List.length_flatten]

theorem holds_of_row {w a l cap} (h : Row w a l cap) : Lib.HoldsBytes w (.slice a l.length cap) l := by
  refine ⟨a, cap, rfl, fun hn => ?_, fun x hx i y hy => ?_⟩
  · rcases List.eq_nil_or_concat l with h0 | ⟨_, _, h0⟩
    · exact h0
    · obtain ⟨b, o, e⟩ := h.spot (by simp [h0])
      rw [hn] at e; simp at e
  · subst hx
    obtain ⟨hi, rfl⟩ := List.getElem?_eq_some_iff.1 hy
    obtain ⟨b, o, e⟩ := h.spot (by intro h0; simp [h0] at hi)
    injection e with e
    subst e
    have := h.cell i hi
    have ea : (⟨b, o, none⟩ : Addr).add i = ad (some ⟨b, o, none⟩) i := by unfold Addr.add ad; split <;> simp_all
    rw [ea]; exact this

theorem mine_of_fresh {B : Nat} {w : World} {v : Value} {l : List UInt8} (h : Lib.FreshBytes B w v l) : ∃ a c, v = .slice a l.length c ∧ Mine B w a l c := by
  obtain ⟨g, cap, zs, rfl, hB, hle, hm, hz, hr, hb, hc, hf⟩ := h
  refine ⟨_, _, rfl, ⟨hle, hm, fun h => by simp at h, fun _ => ⟨g, 0, rfl⟩, fun i hi => ?_⟩, fun k hk => ?_, fun i hi => ?_⟩
  · have h1 := hc i (by omega)
    simp only [ad, Nat.zero_add]
    rw [h1]
    have hzi : i < zs.length := by omega
    have hzr := hr zs[i] (List.getElem_mem hzi)
    have e : l[i] = UInt8.ofNat (zs[i]).toNat := by
      have hb' : l = Lib.bytesOf (zs.take l.length) := hb.symm
      have : l[i]? = (Lib.bytesOf (zs.take l.length))[i]? := by rw [← hb']
      simp only [Lib.bytesOf, List.getElem?_map, List.getElem?_take, if_pos hi, List.getElem?_eq_getElem hi, List.getElem?_eq_getElem hzi, Option.map_some, Option.some.injEq] at this
      exact this
    rw [e, List.getD, List.getElem?_eq_getElem hzi]
    simp only [Option.getD_some, vb]
    rw [UInt8.toNat_ofNat_of_lt' (by show _ < 256; omega)]
    congr 2; omega
  · simp [blk] at hk; omega
  · simp only [ad, Nat.zero_add]; exact hf i (by omega)

/-- bytes.Join of parts, no separator. -/
theorem join_calls (w : World) (b o c : Nat) (vs : List Value) (ls : List (List UInt8)) (hP : Lib.PartsAt w ⟨b, o, none⟩ vs ls) (hcap : ls.length ≤ c) (hl : ls.flatten.length ≤ 1000000000) (hn : ls.length ≤ 1000000000) :
    Calls Tryz.prog 81 #[.slice (some ⟨b, o, none⟩) ls.length c, .slice none 0 0] w fun e w' => ∃ a cp, e = .returned (.slice a ls.flatten.length cp) ∧ Mine w.heap.size w' a ls.flatten cp ∧ Below w.heap.size w w' := by
  match ls, hP, hcap, hl, hn with
  | [], hP, hcap, hl, hn =>
    refine (Tryz.bytes_Join_none _ c _ w).mono ?_
    rintro e w' ⟨rfl, rfl⟩
    exact ⟨_, _, rfl, ⟨⟨Nat.le_refl _, Nat.zero_le _, fun h => rfl, fun h => (h rfl).elim, fun i h => by simp at h⟩, fun g hg => by simp [blk] at hg; omega, fun i h => by simp at h⟩, (Below.refl _ _).alloc (Nat.le_refl _) _⟩
  | [l], hP, hcap, hl, hn =>
    obtain ⟨p, cap, l', hl', hcell, hnone, hby⟩ := hP.get 0 (by simp)
    simp only [List.getElem?_cons_zero, Option.some.injEq] at hl'
    subst hl'
    have hcell0 : w.cell? ⟨b, o, none⟩ = some (.slice p l.length cap) := by simpa [Addr.add] using hcell
    simp only [List.flatten_cons, List.flatten_nil, List.append_nil] at hl ⊢
    rcases Nat.eq_zero_or_pos l.length with h0 | h0
    · rw [h0] at hcell0
      refine (Tryz.bytes_Join_one_empty b o c p cap _ w hcell0).mono ?_
      rintro e w' ⟨rfl, rfl⟩
      obtain rfl : l = [] := List.eq_nil_of_length_eq_zero h0
      exact ⟨none, 0, rfl, Mine.nil _ _, Below.refl _ _⟩
    · obtain ⟨a0, rfl⟩ : ∃ a0, p = some a0 := by
        cases p with
        | none => have := hnone rfl; simp [this] at h0
        | some a0 => exact ⟨a0, rfl⟩
      refine (Tryz.bytes_Join_one b o c a0 cap l _ w hcell0 (hby a0 rfl) h0 (by omega)).mono ?_
      rintro e w' ⟨v', rfl, hf, hb⟩
      obtain ⟨a, cp, rfl, hm⟩ := mine_of_fresh hf
      exact ⟨a, cp, rfl, hm, hb⟩
  | x :: y :: ls, hP, hcap, hl, hn =>
    refine (Tryz.bytes_Join_many b o _ c vs (x :: y :: ls) (.slice none 0 0) [] w rfl (by simp) hP hcap (holds_of_row (Row.nil_ w)) (by omega) (by rw [lens_flat]; simp at hl ⊢; omega)).mono ?_
    rintro e w' ⟨v', rfl, hf, hb⟩
    rw [join_flat] at hf
    obtain ⟨a, cp, rfl, hm⟩ := mine_of_fresh hf
    exact ⟨a, cp, rfl, hm, hb⟩

theorem cat_calls (w : World) (b o c : Nat) (vs : List Value) (ls : List (List UInt8)) (hP : Lib.PartsAt w ⟨b, o, none⟩ vs ls) (hcap : ls.length ≤ c) (hl : ls.flatten.length ≤ 1000000000) (hn : ls.length ≤ 1000000000) :
    Calls Tryz.prog 67 #[.slice (some ⟨b, o, none⟩) ls.length c] w fun e w' => ∃ a cp, e = .returned (.slice a ls.flatten.length cp) ∧ Mine w.heap.size w' a ls.flatten cp ∧ Below w.heap.size w w' := by
  have hj := join_calls w b o c vs ls hP hcap hl hn
  obtain ⟨f, hf⟩ : ∃ f, ls.flatten = f := ⟨_, rfl⟩
  rw [hf] at hj ⊢
  clear hf hl hP hn
  go_enter Tryz.func67, Tryz.ntmps67
  go_wp2_with (go_at_call 81; refine hj.mono ?_; rintro e w' ⟨a, cp, rfl, hm, hb⟩)
  go_ret
  exact ⟨a, cp, rfl, hm, hb⟩

/-- The parts that a call lays in a new array. -/
theorem parts_new (W : World) (vs : List Value) (ls : List (List UInt8)) (t : TypeId) (hlen : vs.length = ls.length) (h : ∀ (i : Nat) v l, vs[i]? = some v → ls[i]? = some l → Lib.HoldsBytes W v l) :
    Lib.PartsAt (W.alloc (.cells vs.toArray t)) ⟨W.heap.size, 0, none⟩ vs ls := by
  refine ⟨hlen, fun i v hv => ?_, fun i v l hv hl => ?_⟩
  · have ea : (⟨W.heap.size, 0, none⟩ : Addr).add i = ⟨W.heap.size, i, none⟩ := by unfold Addr.add; split <;> simp_all
    rw [ea, World.cell?, heap_alloc_new]
    simpa using hv
  · obtain ⟨p, cap, e, h1, h2⟩ := h i v l hv hl
    refine ⟨p, cap, e, h1, fun a ha j x hx => ?_⟩
    have hc := h2 a ha j x hx
    have hlt := World.block_lt_of_cell? W _ hc
    rw [((Below.refl W.heap.size W).alloc (Nat.le_refl _) (.cells vs.toArray t)).cell hlt]
    exact hc

theorem cat1_calls (W : World) (t : TypeId) {a1 : Option Addr} {l1 : List UInt8} {c1 : Nat} (r1 : Row W a1 l1 c1) (hl : l1.length ≤ 1000000000) :
    Calls Tryz.prog 67 #[.slice (some ⟨W.heap.size, 0, none⟩) 1 1] (W.alloc (.cells #[.slice a1 l1.length c1] t)) fun e w' => ∃ a cp, e = .returned (.slice a l1.length cp) ∧ Mine W.heap.size w' a l1 cp ∧ Below W.heap.size W w' := by
  have hP := parts_new W [.slice a1 l1.length c1] [l1] t rfl (by
    intro i v l hv hl
    match i with
    | 0 => simp at hv hl; subst hv hl; exact holds_of_row r1
    | i + 1 => simp at hv)
  refine (cat_calls _ _ _ 1 _ _ hP (by simp) (by simpa using hl) (by simp)).mono ?_
  rintro e w' ⟨a, cp, rfl, hm, hb⟩
  simp only [List.flatten_cons, List.flatten_nil, List.append_nil] at hm ⊢
  exact ⟨a, cp, rfl, hm.low (by simp), ((Below.refl _ _).alloc (Nat.le_refl _) _).trans (hb.mono (by simp))⟩

theorem cat2_calls (W : World) (t : TypeId) {a1 a2 : Option Addr} {l1 l2 : List UInt8} {c1 c2 : Nat} (r1 : Row W a1 l1 c1) (r2 : Row W a2 l2 c2) (hl : l1.length ≤ 300000000) (hl2 : l2.length ≤ 300000000) :
    Calls Tryz.prog 67 #[.slice (some ⟨W.heap.size, 0, none⟩) 2 2] (W.alloc (.cells #[.slice a1 l1.length c1, .slice a2 l2.length c2] t)) fun e w' => ∃ a cp, e = .returned (.slice a (l1 ++ l2).length cp) ∧ Mine W.heap.size w' a (l1 ++ l2) cp ∧ Below W.heap.size W w' := by
  have hP := parts_new W [.slice a1 l1.length c1, .slice a2 l2.length c2] [l1, l2] t rfl (by
    intro i v l hv hl
    match i with
    | 0 => simp at hv hl; subst hv hl; exact holds_of_row r1
    | 1 => simp at hv hl; subst hv hl; exact holds_of_row r2
    | i + 2 => simp at hv)
  refine (cat_calls _ _ _ 2 _ _ hP (by simp) (by simp; omega) (by simp)).mono ?_
  rintro e w' ⟨a, cp, rfl, hm, hb⟩
  simp only [List.flatten_cons, List.flatten_nil, List.append_nil] at hm ⊢
  exact ⟨a, cp, rfl, hm.low (by simp), ((Below.refl _ _).alloc (Nat.le_refl _) _).trans (hb.mono (by simp))⟩

theorem cat3_calls (W : World) (t : TypeId) {a1 a2 a3 : Option Addr} {l1 l2 l3 : List UInt8} {c1 c2 c3 : Nat} (r1 : Row W a1 l1 c1) (r2 : Row W a2 l2 c2) (r3 : Row W a3 l3 c3) (hl : l1.length ≤ 300000000) (hl2 : l2.length ≤ 300000000) (hl3 : l3.length ≤ 300000000) :
    Calls Tryz.prog 67 #[.slice (some ⟨W.heap.size, 0, none⟩) 3 3] (W.alloc (.cells #[.slice a1 l1.length c1, .slice a2 l2.length c2, .slice a3 l3.length c3] t)) fun e w' => ∃ a cp, e = .returned (.slice a (l1 ++ (l2 ++ l3)).length cp) ∧ Mine W.heap.size w' a (l1 ++ (l2 ++ l3)) cp ∧ Below W.heap.size W w' := by
  have hP := parts_new W [.slice a1 l1.length c1, .slice a2 l2.length c2, .slice a3 l3.length c3] [l1, l2, l3] t rfl (by
    intro i v l hv hl
    match i with
    | 0 => simp at hv hl; subst hv hl; exact holds_of_row r1
    | 1 => simp at hv hl; subst hv hl; exact holds_of_row r2
    | 2 => simp at hv hl; subst hv hl; exact holds_of_row r3
    | i + 3 => simp at hv)
  refine (cat_calls _ _ _ 3 _ _ hP (by simp) (by simp; omega) (by simp)).mono ?_
  rintro e w' ⟨a, cp, rfl, hm, hb⟩
  simp only [List.flatten_cons, List.flatten_nil, List.append_nil] at hm ⊢
  exact ⟨a, cp, rfl, hm.low (by simp), ((Below.refl _ _).alloc (Nat.le_refl _) _).trans (hb.mono (by simp))⟩

theorem cat0_calls (w : World) :
    Calls Tryz.prog 67 #[.slice none 0 0] w fun e w' => ∃ a cp, e = .returned (.slice a 0 cp) ∧ Mine w.heap.size w' a [] cp ∧ Below w.heap.size w w' := by
  go_enter Tryz.func67, Tryz.ntmps67
  go_wp2_with (go_at_call 81; refine (Tryz.bytes_Join_none none 0 _ _).mono ?_; rintro e w' ⟨rfl, rfl⟩)
  go_ret
  exact ⟨_, _, rfl, ⟨⟨Nat.le_refl _, Nat.zero_le _, fun h => rfl, fun h => (h rfl).elim, fun i h => by simp at h⟩, fun g hg => by simp [blk] at hg; omega, fun i h => by simp at h⟩, (Below.refl _ _).alloc (Nat.le_refl _) _⟩
end Go.Proofs.YtofagofpeedfcaaGreat

/- words.Same, words.Ahead: contracts. -/
namespace Go.Proofs.YtofagofpeedfcaaGreat
open Go Go.RowKit Go.Cit

theorem cmp_ordB : ∀ a b : List UInt8, Lib.compareBytes a b = ordB a b
  | [], [] => rfl
  | [], _ :: _ => rfl
  | _ :: _, [] => rfl
  | x :: xs, y :: ys => by unfold Lib.compareBytes ordB; rw [cmp_ordB xs ys]

theorem row_string {w a l cap} (h : Row w a l cap) : (convert 31 9 (.slice a l.length cap)).run Tryz.prog w = .ok (.string ⟨l.toArray⟩) w := by
  have he : Tryz.prog.underlying 5 = some (.int .u8) := Tryz.underlying5
  rcases Nat.eq_zero_or_pos l.length with h0 | h0
  · obtain rfl : l = [] := List.eq_nil_of_length_eq_zero h0
    cases a with
    | none =>
      rw [run_convert_bytes_string w _ _ 5 none _ cap bt.slice he Tryz.underlying9]
      simp [Conv.bytesToString, Sem.run_pure]; rfl
    | some x =>
      exact run_convert_bytes_back w _ _ 5 x cap [] bt.slice he Tryz.underlying9 (fun j hj => by simp at hj)
  · obtain ⟨b, o, rfl⟩ := h.spot (by intro h1; simp [h1] at h0)
    refine run_convert_bytes_back w _ _ 5 ⟨b, o, none⟩ cap l bt.slice he Tryz.underlying9 (fun j hj => ?_)
    have ea : (⟨b, o, none⟩ : Addr).add j = ad (some ⟨b, o, none⟩) j := by unfold Addr.add ad; split <;> simp_all
    rw [ea]; exact h.cell j hj

theorem loadBytes_row {P : Program} {w : World} (b : Nat) : ∀ (l : List UInt8) (off : Nat) (acc : ByteArray), (∀ i (h : i < l.length), w.cell? ⟨b, off + i, none⟩ = some (vb l[i])) →
    (Extern.Bytes.loadBytes ⟨b, off, none⟩ l.length acc).run P w = .ok ⟨acc.data ++ l.toArray⟩ w
  | [], off, acc, _ => by simp [Extern.Bytes.loadBytes, Sem.run_pure]
  | x :: l, off, acc, h => by
    have h0 : w.cell? ⟨b, off, none⟩ = some (vb x) := h 0 (by simp)
    have hl : (load ⟨b, off, none⟩).run P w = .ok (vb x) w := by simp [go_sem, h0]
    have ih := loadBytes_row (P := P) (w := w) b l (off + 1) (acc.push x) (fun i hi => by have := h (i + 1) (by simpa using hi); simpa [Nat.add_assoc, Nat.add_comm 1 i] using this)
    simp only [List.length_cons, Extern.Bytes.loadBytes, Sem.run_bind, hl, Result.andThen]
    have ea : (⟨b, off, none⟩ : Addr).add 1 = ⟨b, off + 1, none⟩ := rfl
    have ex : (x.toNat : Int).toNat.toUInt8 = x := by simp
    rw [ea, ex, ih]
    congr 2
    simp [ByteArray.push]

theorem row_bytesOf {P : Program} {w a l cap} (h : Row w a l cap) : (Extern.Bytes.bytesOf (.slice a l.length cap)).run P w = .ok ⟨l.toArray⟩ w := by
  cases a with
  | none =>
    have : l = [] := by
      rcases List.eq_nil_or_concat l with h0 | ⟨_, _, h0⟩
      · exact h0
      · obtain ⟨b, o, e⟩ := h.spot (by simp [h0]); simp at e
    subst this
    simp [Extern.Bytes.bytesOf, Sem.run_pure]; rfl
  | some x =>
    rcases Nat.eq_zero_or_pos l.length with h0 | h0
    · obtain rfl : l = [] := List.eq_nil_of_length_eq_zero h0
      simp [Extern.Bytes.bytesOf, Extern.Bytes.loadBytes, Sem.run_pure]; rfl
    · obtain ⟨b, o, e⟩ := h.spot (by intro h1; simp [h1] at h0)
      injection e with e
      subst e
      have := loadBytes_row (P := P) b l o .empty (fun i hi => by simpa [ad] using h.cell i hi)
      simp only [Extern.Bytes.bytesOf]
      rw [this]
      congr 2
      simp

-- (this seat's program does not call bytes.Compare)
end Go.Proofs.YtofagofpeedfcaaGreat

