/- The laws' own 'awake' of layer 4: it returns true. Walked. -/
import Derived.Test.YtiemafgnpmoblaaHmacSame
import Derived.Test.YtiemafgnpmoblaaGf
import Derived.Test.YtiemafgnpmoblaaShaAwake
import Derived.Lib.SlBytesConst
namespace Go.Proofs.Ytiemafgnpmoblaa
open Go Go.RowKit Go.Cit

theorem hawk_1 : hmacB (List.replicate 20 11) [72, 105, 32, 84, 104, 101, 114, 101] = [176, 52, 76, 97, 216, 219, 56, 83, 92, 168, 175, 206, 175, 11, 241, 43, 136, 29, 194, 0, 201, 131, 61, 167, 38, 233, 55, 108, 46, 50, 207, 247] := by decide +kernel
theorem hawk_2 : hmacB [74, 101, 102, 101] [119, 104, 97, 116, 32, 100, 111, 32, 121, 97, 32, 119, 97, 110, 116, 32, 102, 111, 114, 32, 110, 111, 116, 104, 105, 110, 103, 63] = [91, 220, 193, 70, 191, 96, 117, 78, 106, 4, 36, 38, 8, 149, 117, 199, 90, 0, 63, 8, 157, 39, 57, 131, 157, 236, 88, 185, 100, 236, 56, 67] := by decide +kernel
theorem hawk_h1 : hexB (hmacB (List.replicate 20 11) [72, 105, 32, 84, 104, 101, 114, 101]) = [98, 48, 51, 52, 52, 99, 54, 49, 100, 56, 100, 98, 51, 56, 53, 51, 53, 99, 97, 56, 97, 102, 99, 101, 97, 102, 48, 98, 102, 49, 50, 98, 56, 56, 49, 100, 99, 50, 48, 48, 99, 57, 56, 51, 51, 100, 97, 55, 50, 54, 101, 57, 51, 55, 54, 99, 50, 101, 51, 50, 99, 102, 102, 55] := by rw [hawk_1]; decide +kernel
theorem hawk_h2 : hexB (hmacB [74, 101, 102, 101] [119, 104, 97, 116, 32, 100, 111, 32, 121, 97, 32, 119, 97, 110, 116, 32, 102, 111, 114, 32, 110, 111, 116, 104, 105, 110, 103, 63]) = [53, 98, 100, 99, 99, 49, 52, 54, 98, 102, 54, 48, 55, 53, 52, 101, 54, 97, 48, 52, 50, 52, 50, 54, 48, 56, 57, 53, 55, 53, 99, 55, 53, 97, 48, 48, 51, 102, 48, 56, 57, 100, 50, 55, 51, 57, 56, 51, 57, 100, 101, 99, 53, 56, 98, 57, 54, 52, 101, 99, 51, 56, 52, 51] := by rw [hawk_2]; decide +kernel
theorem hawk_s : (shortK (List.replicate 65 0)).length = 32 := by rw [shortK, if_pos (by simp), sumB_len]

/-- hmac.Open of bytes that are shorter than a tag. -/
theorem openshort_calls (w : World) (v : Value) (a : Option Addr) (n c : Nat) (hn : n < 32) :
    Calls Try.prog 41 #[v, .slice a n c] w fun e w' => e = .returned (.tuple #[.slice none 0 0, .bool false]) ∧ w = w' := by
  have d1 : decide ((n : Int) < 32) = true := by simp; omega
  have d1' : decide (n < 32) = true := by simpa using hn
  go_enter Try.func41, Try.ntmps41
  go_wp2_with fail
  go_ret2
  exact ⟨rfl, rfl⟩

set_option maxRecDepth 100000 in
set_option maxHeartbeats 4000000 in
theorem hmacAwake_calls (w : World) :
    Calls Try.prog 45 #[] w fun e w' => e = .returned (.bool true) ∧ Below w.heap.size w w' := by
  have kc := fun (w : World) (C : Array Value) (n c : Nat) => Lib.run_convert_bytes_const (P := Try.prog) w 25 5 C n c Try.underlying25 Try.underlying5
  have hmk : ∀ w : World, (Instr.makeSlice 25 (.int .i64 65) (.int .i64 65)).run Try.prog w = .ok (.slice (some ⟨w.heap.size, 0, none⟩) 65 65) (w.alloc (.cells (madeCells #[.int .u8 0] 65) 5)) := fun _ => by kernel_rfl
  have hz65 : madeCells #[.int .u8 0] 65 = ((List.replicate 65 (0 : UInt8)).map vb).toArray := by kernel_rfl
  obtain ⟨Z, hZ⟩ : ∃ Z, Hid (Z = madeCells #[.int .u8 0] 65) := ⟨_, rfl⟩
  rw [← hZ.out] at hmk hz65
  have HZ65 := Lib.hid hz65
  have HMK := Lib.hid hmk
  clear hz65 hmk
  go_enter Try.func45, Try.ntmps45
  go_wp2_with (refine wp_make_bytes bt (.const (.int .i64 20)) (.const (.int .i64 20)) rfl rfl 20 .i64 .i64 rfl rfl rfl (by decide) ?_; intro w1 hown hgr hsz; have HO1 := Lib.hid hown; have B1 := Lib.hid ((Below.refl w.heap.size w).grown hgr (Nat.le_refl _) (fun k hk => by cases hk)); clear hown hgr)
  go_loopw [2] (fun i wr => ∃ (k : Nat) (m : List UInt8), k ≤ 20 ∧ i = .int .i64 k ∧ Hid (m = List.replicate k 11 ++ List.replicate (20 - k) 0) ∧ Cit.Own 5 w.heap.size wr (some ⟨w.heap.size, 0, none⟩) m 20 ∧ Below w.heap.size w wr) (fun i _ => 20 - (intOf i).toNat)
  case atStart => exact ⟨0, _, Nat.zero_le _, rfl, rfl, HO1.out, B1.out⟩
  case round =>
    clear HO1 B1
    obtain ⟨k, m, hk, rfl, HM, hO, B⟩ := hrel
    have HML : Hid (m.length = 20) := by rw [Hid, HM.out]; simp; omega
    by_cases hlt : k < 20
    · have d1 : decide ((k : Int) < 20) = true := by simp; omega
      have hkm : k < m.length := by rw [HML.out]; exact hlt
      have ik := hO.isRow.index bt.slice bt.sz k hkm
      have ek := hO.isRow.cell k hkm
      have fk := hO.frozen k hkm
      obtain ⟨hst, hgr⟩ := Cit.Own.stored hO k hkm 11
      rw [HML.out] at ik
      rw [ad_some] at ik ek fk hst hgr
      obtain ⟨y, hy⟩ : ∃ y, m[k] = y := ⟨_, rfl⟩
      rw [hy] at ek
      have HS : Hid (m.set k 11 = List.replicate (k + 1) 11 ++ List.replicate (20 - (k + 1)) 0) := by
        rw [Hid, HM.out, List.set_append_right _ _ (by simp), List.length_replicate, Nat.sub_self]
        obtain ⟨d, hd⟩ : ∃ d, 20 - k = d + 1 := ⟨19 - k, by omega⟩
        rw [hd, List.replicate_succ, List.set_cons_zero, show 20 - (k + 1) = d by omega, List.replicate_succ', List.append_assoc]; rfl
      have HST := Lib.hid hst
      have HB := Lib.hid (B.trans (grown_below hgr B.size (fun j hj => (hO.blk_ge hj).1)))
      clear hst hgr hy hkm hO
      go_wp2_with fail
      go_roundw
      case rel => exact ⟨k + 1, _, by omega, by go_num, HS, HST.out, HB.out⟩
      case measure => simp [intOf]; omega
    · have d1 : decide ((k : Int) < 20) = false := by simp; omega
      have HM2 : Hid (m = List.replicate 20 11) := by rw [Hid, HM.out, show k = 20 by omega]; simp
      have HR := Lib.hid hO.isRow
      clear hO
      go_wp2_with (refine wp_make_bytes bt (.const (.int .i64 31)) (.const (.int .i64 31)) rfl rfl 31 .i64 .i64 rfl rfl rfl (by decide) ?_; intro w2 hown hgr hsz; have B2 := Lib.hid ((Below.refl wr.heap.size wr).grown hgr (Nat.le_refl _) (fun k hk => by cases hk)); clear hown hgr)
      refine (openshort_calls w2 _ _ 31 31 (by decide)).mono ?_
      rintro e w3 ⟨rfl, rfl⟩
      have hA : ∀ (W : World) (o : Obj), Below W.heap.size W (W.alloc o) := fun W o => (Below.refl _ _).alloc (Nat.le_refl _) _
      have HBA := Lib.hid hA
      have B3 := B.trans (B2.out.mono B.size)
      have HR3 := Lib.hid (HR.out.stay B2.out)
      rw [HM2.out] at HR3
      clear hA HR B2 B HM
      go_wp2_with fail
      have q1 : Calls Try.prog 35 #[.slice (some ⟨w.heap.size, 0, none⟩) 20 20, .slice (some ⟨w2.heap.size, 0, none⟩) 8 8] (w2.alloc (.cells #[.int .u8 72, .int .u8 105, .int .u8 32, .int .u8 84, .int .u8 104, .int .u8 101, .int .u8 114, .int .u8 101] 5 (8, 9))) fun e w' => e = .returned (.agg ((hmacB (List.replicate 20 11) [72, 105, 32, 84, 104, 101, 114, 101]).map vb).toArray) ∧ Below w2.heap.size w2 w' := by
        have h := hsum_calls _ _ (List.replicate 20 11) 20 (HR3.out.stay (HBA.out w2 (.cells #[.int .u8 72, .int .u8 105, .int .u8 32, .int .u8 84, .int .u8 104, .int .u8 101, .int .u8 114, .int .u8 101] 5 (8, 9)))) (by simp) _ [72, 105, 32, 84, 104, 101, 114, 101] 8 (row_new w2 _ _ (8, 9) [72, 105, 32, 84, 104, 101, 114, 101] rfl (by simp)) (by simp)
        exact h.mono fun e w' ⟨he, hb⟩ => ⟨he, (HBA.out w2 _).trans (hb.mono (HBA.out w2 _).size)⟩
      refine q1.mono ?_
      rintro e w4 ⟨rfl, hb4⟩
      have B4 := B3.trans (hb4.mono B3.size)
      have hH := hex_calls w4 (hmacB (List.replicate 20 11) [72, 105, 32, 84, 104, 101, 114, 101]) (hmacB_len _ _)
      rw [hawk_h1] at hH
      have HH := Lib.hid hH
      clear q1 hb4 hH B3
      go_wp2_with fail
      refine HH.out.mono ?_
      rintro e w5 ⟨rfl, hb5⟩
      have B5 := B4.trans (hb5.mono B4.size)
      clear hb5 B4 HH
      have kc2 := kc (w5.alloc (.cells #[.int .u8 74, .int .u8 101, .int .u8 102, .int .u8 101] 5 (4, 5)))
      simp only [World.size_alloc] at kc2
      go_wp2_with (first
        | ((with_reducible refine wpList_value (o := ⟨some 26, .binOp _ _ _ _ _, _, _, _, _⟩) (by with_unfolding_all rfl) (exec_bin (by with_unfolding_all rfl) (by with_unfolding_all rfl) (by with_unfolding_all rfl) (str_same _) _) ?_)))
      have q2 : Calls Try.prog 35 #[.slice (some ⟨w5.heap.size, 0, none⟩) 4 4, .slice (some ⟨w5.heap.size + 1, 0, none⟩) 28 28] ((w5.alloc (.cells #[.int .u8 74, .int .u8 101, .int .u8 102, .int .u8 101] 5 (4, 5))).alloc (.cells #[.int .u8 119, .int .u8 104, .int .u8 97, .int .u8 116, .int .u8 32, .int .u8 100, .int .u8 111, .int .u8 32, .int .u8 121, .int .u8 97, .int .u8 32, .int .u8 119, .int .u8 97, .int .u8 110, .int .u8 116, .int .u8 32, .int .u8 102, .int .u8 111, .int .u8 114, .int .u8 32, .int .u8 110, .int .u8 111, .int .u8 116, .int .u8 104, .int .u8 105, .int .u8 110, .int .u8 103, .int .u8 63] 5 (28, 29))) fun e w' => e = .returned (.agg ((hmacB [74, 101, 102, 101] [119, 104, 97, 116, 32, 100, 111, 32, 121, 97, 32, 119, 97, 110, 116, 32, 102, 111, 114, 32, 110, 111, 116, 104, 105, 110, 103, 63]).map vb).toArray) ∧ Below w5.heap.size w5 w' := by
        have r1 := (row_new w5 #[.int .u8 74, .int .u8 101, .int .u8 102, .int .u8 101] 5 (4, 5) [74, 101, 102, 101] rfl (by simp)).stay (HBA.out _ (.cells #[.int .u8 119, .int .u8 104, .int .u8 97, .int .u8 116, .int .u8 32, .int .u8 100, .int .u8 111, .int .u8 32, .int .u8 121, .int .u8 97, .int .u8 32, .int .u8 119, .int .u8 97, .int .u8 110, .int .u8 116, .int .u8 32, .int .u8 102, .int .u8 111, .int .u8 114, .int .u8 32, .int .u8 110, .int .u8 111, .int .u8 116, .int .u8 104, .int .u8 105, .int .u8 110, .int .u8 103, .int .u8 63] 5 (28, 29)))
        have r2 := row_new (w5.alloc (.cells #[.int .u8 74, .int .u8 101, .int .u8 102, .int .u8 101] 5 (4, 5))) #[.int .u8 119, .int .u8 104, .int .u8 97, .int .u8 116, .int .u8 32, .int .u8 100, .int .u8 111, .int .u8 32, .int .u8 121, .int .u8 97, .int .u8 32, .int .u8 119, .int .u8 97, .int .u8 110, .int .u8 116, .int .u8 32, .int .u8 102, .int .u8 111, .int .u8 114, .int .u8 32, .int .u8 110, .int .u8 111, .int .u8 116, .int .u8 104, .int .u8 105, .int .u8 110, .int .u8 103, .int .u8 63] 5 (28, 29) [119, 104, 97, 116, 32, 100, 111, 32, 121, 97, 32, 119, 97, 110, 116, 32, 102, 111, 114, 32, 110, 111, 116, 104, 105, 110, 103, 63] rfl (by simp)
        rw [World.size_alloc] at r2
        have h := hsum_calls _ _ [74, 101, 102, 101] 4 r1 (by simp) _ [119, 104, 97, 116, 32, 100, 111, 32, 121, 97, 32, 119, 97, 110, 116, 32, 102, 111, 114, 32, 110, 111, 116, 104, 105, 110, 103, 63] 28 r2 (by simp)
        refine h.mono fun e w' ⟨he, hb⟩ => ⟨he, ?_⟩
        exact ((HBA.out w5 _).trans ((HBA.out _ _).mono (HBA.out w5 _).size)).trans (hb.mono (by simp; omega))
      refine q2.mono ?_
      rintro e w6 ⟨rfl, hb6⟩
      have B6 := B5.trans (hb6.mono B5.size)
      have hH := hex_calls w6 (hmacB [74, 101, 102, 101] [119, 104, 97, 116, 32, 100, 111, 32, 121, 97, 32, 119, 97, 110, 116, 32, 102, 111, 114, 32, 110, 111, 116, 104, 105, 110, 103, 63]) (hmacB_len _ _)
      rw [hawk_h2] at hH
      have HH := Lib.hid hH
      have hmk := HMK.out
      clear q2 hb6 hH B5 kc2 kc
      go_wp2_with fail
      refine HH.out.mono ?_
      rintro e w7 ⟨rfl, hb7⟩
      have B7 := B6.trans (hb7.mono B6.size)
      clear hb7 B6 HH
      go_wp2_with (first
        | ((with_reducible refine wpList_value_gd (o := ⟨some 34, .binOp _ _ _ _ _, _, _, _, _⟩) (by with_unfolding_all rfl) (exec_bin (by with_unfolding_all rfl) (by with_unfolding_all rfl) (by with_unfolding_all rfl) (str_same _) _) ?_)))
      have q3 : Calls Try.prog 34 #[.slice (some ⟨w7.heap.size, 0, none⟩) 65 65] (w7.alloc (.cells Z 5)) _ := short_calls _ _ (List.replicate 65 0) 65 (row_new w7 _ _ (0, 0) (List.replicate 65 0) HZ65.out (by simp)) (by simp)
      rw [hawk_s] at q3
      refine q3.mono ?_
      rintro e w8 ⟨a8, c8, rfl, _, hb8⟩
      have B8 := B7.trans (((HBA.out w7 (.cells Z 5)).trans (hb8.mono (HBA.out w7 _).size)).mono B7.size)
      clear q3 hb8 B7
      go_wp2_with fail
      go_ret
      exact ⟨rfl, B8⟩
end Go.Proofs.Ytiemafgnpmoblaa
