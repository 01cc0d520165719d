/- frame.Seal and the reference's: contracts. -/
import Derived.Test.YtbglmglgaobjmaaCrcPut
namespace Go.Proofs.Ytbglmglgaobjmaa
open Go Go.RowKit Go.Cit

def cntOf : Value → Nat | .slice _ n _ => n | _ => 0
/-- What is summed of a frame. -/
def headB (kind : UInt8) (l : List UInt8) : List UInt8 := [kind, bI l.length] ++ (l ++ List.replicate (58 - l.length) 0)
/-- The frame. -/
def frameB (kind : UInt8) (l : List UInt8) : List UInt8 := putB (headB kind l)
theorem headB_length (kind : UInt8) (l : List UInt8) (h : l.length ≤ 58) : (headB kind l).length = 60 := by simp [headB]; omega
theorem frameB_length (kind : UInt8) (l : List UInt8) (h : l.length ≤ 58) : (frameB kind l).length = 64 := by rw [frameB, putB_length, headB_length kind l h]

theorem two_cells (kind : UInt8) (n : Nat) (h : n ≤ 58) : (#[vb kind, .int .u8 (n : Int)] : Array Value) = ([kind, bI n].map vb).toArray := by
  simp [bI_nat (n : Int) (by omega) (by omega)]

set_option maxHeartbeats 1000000 in
theorem fseal_calls (w : World) (kind : UInt8) (a0 : Option Addr) (l : List UInt8) (c0 : Nat) (h0 : Row w a0 l c0) (hl : l.length ≤ 58) :
    Calls Try.prog 38 #[vb kind, .slice a0 l.length c0] w fun e w' => ∃ a X cp, Hid (X = frameB kind l) ∧ e = .returned (.tuple #[.slice a X.length cp, .int .i64 0]) ∧ Mine w.heap.size w' a X cp ∧ Below w.heap.size w w' := by
  have R1 := Lib.hid (row_new w _ 5 (0, 0) [kind, bI l.length] (two_cells kind l.length hl) (by simp))
  go_enter Try.func38, Try.ntmps38
  go_wp2_with (refine wp_make_bytes bt (.tmp 17) (.tmp 17) rfl rfl (58 - l.length) .i64 .i64 rfl rfl (by omega) (by omega) ?_; intro w1 hown hgr hsz)
  have hB1 : Below w.heap.size w w1 := (((Below.refl _ _).alloc (Nat.le_refl _) _).grown hgr (by simp) (fun k hk => by cases hk))
  have q1 : Row w1 (some ⟨w.heap.size, 0, none⟩) [kind, bI l.length] 2 := R1.out.stay ((Below.refl _ _).grown hgr (Nat.le_refl _) (fun k hk => by cases hk))
  have q2 := h0.stay hB1
  have q3 := hown.isRow
  have q3' : Row w1 (some ⟨(w.alloc (.cells #[vb kind, .int .u8 (l.length : Int)] 5)).heap.size, 0, none⟩) (List.replicate (58 - l.length) 0) (List.replicate (58 - l.length) (0 : UInt8)).length := by rw [List.length_replicate]; exact q3
  have hk := toX (cat3_calls w1 23 q1 q2 q3' (by simp) (by omega) (by simp; omega))
  have hz : (w.alloc (.cells #[vb kind, .int .u8 (l.length : Int)] 5)).heap.size = w.heap.size + 1 := by simp
  rw [List.length_replicate, hz, show [kind, bI l.length].length = 2 from rfl] at hk
  clear hown hgr R1 q1 q3 q3'
  refine Calls.mono (show Calls _ _ _ _ _ from hk) ?_
  rintro e w2 ⟨a2, X, c2, HX, rfl, hm2, hb2⟩
  have HX2 : Hid (X = headB kind l) := HX.out
  have hX : Hid (X.length = 60) := by rw [Hid, HX2.out]; exact headB_length kind l hl
  have B2 : Below w.heap.size w w2 := hB1.trans (hb2.mono hB1.size)
  go_wp2_with fail
  refine (crcput_calls _ _ _ _ hm2.row (by rw [hX.out]; decide)).mono ?_
  rintro e w3 ⟨a3, Y, c3, HY, rfl, hm3, hb3⟩
  go_wp2_with fail
  go_ret2
  exact ⟨a3, Y, c3, by rw [Hid, HY.out, HX2.out]; rfl, rfl, hm3.low B2.size, B2.trans (hb3.mono B2.size)⟩

theorem fseal_long (w : World) (kind : UInt8) (a0 : Option Addr) (l : List UInt8) (c0 : Nat) (hl : 58 < l.length) :
    Calls Try.prog 38 #[vb kind, .slice a0 l.length c0] w fun e w' => e = .returned (.tuple #[.slice none 0 0, .int .i64 3]) ∧ w' = w := by
  go_enter Try.func38, Try.ntmps38
  go_wp2_with fail
  go_ret2
  exact ⟨rfl, rfl⟩

set_option maxHeartbeats 1000000 in
theorem reffseal_calls (w : World) (kind : UInt8) (a0 : Option Addr) (l : List UInt8) (c0 : Nat) (h0 : Row w a0 l c0) (hl : l.length ≤ 58) :
    Calls Try.prog 39 #[vb kind, .slice a0 l.length c0] w fun e w' => ∃ a X cp, Hid (X = frameB kind l) ∧ e = .returned (.slice a X.length cp) ∧ Mine w.heap.size w' a X cp ∧ Below w.heap.size w w' := by
  have O1 := own_lit w _ 5 [kind, bI l.length] (two_cells kind l.length hl) (by simp)
  have q0 : Row (w.alloc (.cells #[vb kind, .int .u8 (l.length : Int)] 5)) a0 l c0 := h0.stay ((Below.refl _ _).alloc (Nat.le_refl _) _)
  have hz : w.heap.size ≤ (w.alloc (.cells #[vb kind, .int .u8 (l.length : Int)] 5)).heap.size := by simp
  have hll : ([kind, bI l.length] : List UInt8).length + l.length ≤ 1000000000 := by simp; omega
  go_enter Try.func39, Try.ntmps39
  go_wp2_with (at_builtin; refine wp_append_row bt (.tmp 11) (.tmp 12) rfl rfl O1 q0 hll hz rfl rfl ?_; intro a' c' w' hown' hgr)
  have hB : Below w.heap.size w w' := (((Below.refl _ _).alloc (Nat.le_refl _) _).grown hgr hz (fun k hk => by simp [blk] at hk; omega))
  obtain ⟨Y, HY⟩ : ∃ Y, Hid (Y = [kind, bI l.length] ++ l) := ⟨_, rfl⟩
  rw [← HY.out] at hown'
  have hY : Hid (l.length + 1 + 1 = Y.length) := by rw [Hid, HY.out]; simp
  have hYl : Y.length ≤ 60 := by rw [← hY.out]; omega
  clear O1 q0 hz hll hgr
  go_loopw [5] (fun o wr => ∃ (k : Nat) (a : Option Addr) (c : Nat) (x : List UInt8), Hid (x = Y ++ List.replicate k 0) ∧ Hid (k ≤ 60 - Y.length) ∧ x.length ≤ 60 ∧ o = .slice a x.length c ∧ Own 5 w.heap.size wr a x c ∧ Below w.heap.size w wr) (fun o _ => 60 - (cntOf o))
  case atStart => exact ⟨0, a', c', Y, by simp [Hid], Nat.zero_le _, hYl, by rw [hY.out], hown', hB⟩
  case round =>
    clear hown' hB
    obtain ⟨k, a, c, x, HX, hk, hx, rfl, hown, hb⟩ := hrel
    have hs := hb.size
    have hx9 : x.length ≤ 1000000000 := by omega
    by_cases hlt : x.length < 60
    · go_wp2_with (at_builtin; refine wp_append_box bt (.tmp 17) (.tmp 18) rfl rfl (b := 0) hown hx9 hs rfl rfl ?_; intro a' c' w' hown' hgr)
      go_roundw
      case rel => exact ⟨k + 1, a', c', x ++ [0], by rw [Hid, HX.out, List.replicate_succ', List.append_assoc], by have := HX.out; rw [this] at hlt; rw [List.length_append, List.length_replicate] at hlt; rw [Hid]; omega, by simp; omega, by simp, hown', hb.grown hgr hs (fun j hj => (hown.blk_ge hj).1)⟩
      case measure => simp [cntOf]; omega
    · have HX2 : Hid (x = headB kind l) := by
        have h1 := HX.out
        have h2 : x.length = Y.length + k := by rw [h1]; simp
        rw [Hid, h1, HY.out, headB, List.append_assoc]
        have hy := hY.out
        have : k = 58 - l.length := by omega
        rw [this]
      clear HX hk
      go_wp2_with fail
      refine (refcrcput_calls _ _ _ _ hown.isRow (by omega)).mono ?_
      rintro e w3 ⟨a3, V, c3, HV, rfl, hm3, hb3⟩
      go_wp2_with fail
      go_ret
      exact ⟨a3, V, c3, by rw [Hid, HV.out, HX2.out]; rfl, rfl, hm3.low hs, hb.trans (hb3.mono hs)⟩
end Go.Proofs.Ytbglmglgaobjmaa
