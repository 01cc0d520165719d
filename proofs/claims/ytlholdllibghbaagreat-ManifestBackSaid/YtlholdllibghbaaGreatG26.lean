/- Texts of the proof, one behind the other: RefSha, RefShaP, ShaChain, Hmac. No condition but those that each names. -/
import Derived.Test.YtlholdllibghbaaGreatG01
import Derived.Test.YtlholdllibghbaaGreatG21
import Derived.Test.YtlholdllibghbaaGreatProg
import Derived.Test.YtlholdllibghbaaGreatG00
import Derived.IntWalk
import Derived.Test.YtlholdllibghbaaGreatG25
import Derived.Test.YtlholdllibghbaaGreatG23
import Derived.WalkSpells
import Derived.Lib.SliceRun
/- The reference's table, state at first, turns: walked. -/
namespace Go.Proofs.YtlholdllibghbaaGreat
open Go Go.RowKit Go.Cit

@[reducible] def cw (x : UInt32) : List Value := [vw x]
end Go.Proofs.YtlholdllibghbaaGreat

/- The reference's Print; a state as a row, compared with a row (the statements' own): walked. -/
namespace Go.Proofs.YtlholdllibghbaaGreat
open Go Go.RowKit Go.Cit

theorem ArrB.stay {T w w' b l} (h : ArrB T w b l) (hs : Below w.heap.size w w') : ArrB T w' b l := (hs.block b h.lt).trans h
theorem srow4_len : ∀ x : UInt32, (rowB (qOfW x) 4).length = 4 := fun _ => rowB_length _ _
theorem printB_len (s : S8) : (sprintB s).length = 32 := by unfold sprintB; rw [flatLen srow4_len]; rfl
theorem arrB_index {T : TypeId} {n : Nat} (hT : Tryz.prog.underlying T = some (.array n 5)) (b i : Nat) (hi : i < n) (w : World) :
    (Instr.indexAt T (.pointer (some ⟨b, 0, none⟩)) (.int .i64 (i : Int))).run Tryz.prog w = .ok (.pointer (some ⟨b, i, none⟩)) w := by
  have he : Tryz.prog.elem T = 5 := by simp [Program.elem, hT]
  have hl : Tryz.prog.arrayLen T = n := by simp [Program.arrayLen, hT]
  rw [run_indexAt_array _ _ _ _ _ (by rw [he, hl]; exact hT), hl, he, szB]
  rw [if_pos (by omega)]
  simp only [Result.andThen, Addr.add]
  by_cases h0 : i = 0
  · subst h0; simp
  · simp [h0]
def upto (L : List UInt8) (n m : Nat) : List UInt8 := L.take m ++ List.replicate (n - m) 0
end Go.Proofs.YtlholdllibghbaaGreat

/- sha.Chain: walked. -/
namespace Go.Proofs.YtlholdllibghbaaGreat
open Go Go.RowKit Go.Cit

theorem sumB_len (b : List UInt8) : (sumB b).length = 32 := by unfold sumB; exact printB_len _
theorem tag_all (g : Nat) (w : World) : (Instr.sliceAt 53 (.pointer (some ⟨g, 0, none⟩)) none none none).run Tryz.prog w = .ok (.slice (some ⟨g, 0, none⟩) 32 32) w := by
  have hT : Tryz.prog.underlying 53 = some (.array 32 5) := Tryz.underlying53
  have he : Tryz.prog.elem 53 = 5 := by simp [Program.elem, hT]
  have hl : Tryz.prog.arrayLen 53 = 32 := by simp [Program.arrayLen, hT]
  rw [run_sliceAt_array_all _ _ _ (by rw [he, hl]; exact hT), he, szB, hl]
  simp [Result.andThen, slicedAt, Addr.add]

end Go.Proofs.YtlholdllibghbaaGreat

/- hmac: a key's short form. Walked. -/
namespace Go.Proofs.YtlholdllibghbaaGreat
open Go Go.RowKit Go.Cit

set_option maxRecDepth 100000 in
theorem hclone_calls (w : World) (a : Option Addr) (l : List UInt8) (c : Nat) (h : Row w a l c) (hl : l.length ≤ 1000000000) :
    Calls Tryz.prog 163 #[.slice a l.length c] w fun e w' => ∃ a' c', e = .returned (.slice a' l.length c') ∧ Cit.Own 5 w.heap.size w' a' l c' ∧ Below w.heap.size w w' := by
  cases a with
  | none =>
    have h0 := h.nil rfl
    have h1 := h.le
    obtain rfl : l = [] := List.eq_nil_of_length_eq_zero (by omega)
    subst h0
    show Calls Tryz.prog 163 #[.slice none 0 0] w _
    have hq := fun w : World => Lib.run_eql_slice_nil (P := Tryz.prog) w 40 5 none 0 0 0 0 Tryz.underlying40
    go_enter Tryz.func163, Tryz.ntmps163
    go_wp2_with fail
    go_ret
    exact ⟨none, 0, rfl, Cit.Own.nil _ _ _, Below.refl _ _⟩
  | some x =>
    have hq := fun w : World => Lib.run_eql_slice_nil (P := Tryz.prog) w 40 5 (some x) l.length c 0 0 Tryz.underlying40
    have B0 : Below w.heap.size w (w.alloc (.cells #[] 5)) := (Below.refl _ _).alloc (Nat.le_refl _) _
    have O0 := own_lit w #[] 5 [] rfl (by simp)
    have HO := Lib.hid O0
    have HR := Lib.hid (h.stay B0)
    have HB := Lib.hid B0
    clear O0 B0 h
    go_enter Tryz.func163, Tryz.ntmps163
    go_wp2_with (first
      | ((with_reducible refine wp_append_row (o := ⟨some 7, .call _, _, _, _, _⟩) bt (.tmp 5) (.tmp 6) (by with_unfolding_all rfl) (by with_unfolding_all rfl) HO.out HR.out (by simp; omega) HB.out.size (by with_unfolding_all rfl) (by with_unfolding_all rfl) ?_); intro a2 c2 w2 hO2 hg2; rw [List.nil_append] at hO2; have HO2 := Lib.hid hO2; have HB2 := Lib.hid (HB.out.trans (grown_below hg2 HB.out.size (fun k hk => (HO.out.blk_ge hk).1))); clear hO2 hg2))
    go_ret
    exact ⟨a2, c2, rfl, HO2.out, HB2.out⟩

def shortK (k : List UInt8) : List UInt8 := if 64 < k.length then sumB k else k
theorem shortK_len (k : List UInt8) : (shortK k).length ≤ 64 := by
  unfold shortK; split
  · rw [sumB_len]; decide
  · omega
set_option maxRecDepth 100000 in
set_option maxHeartbeats 2000000 in
theorem short_calls (w : World) (a : Option Addr) (k : List UInt8) (c : Nat) (h : Row w a k c) (hl : k.length ≤ 10000000) :
    Calls Tryz.prog 244 #[.slice a k.length c] w fun e w' => ∃ a' c', e = .returned (.slice a' (shortK k).length c') ∧ Cit.Own 5 w.heap.size w' a' (shortK k) c' ∧ Below w.heap.size w w' := by
  by_cases h64 : 64 < k.length
  · have d1 : decide ((64 : Int) < (k.length : Int)) = true := by simp; omega
    have d1' : decide (64 < k.length) = true := by simpa using h64
    have HE : Hid (shortK k = sumB k) := by rw [Hid, shortK, if_pos h64]
    have HA := Lib.hid (fun ρ d ty ps af w => salloc_tag ρ d ty ps (af := af) w)
    obtain ⟨X, hX⟩ : ∃ Y, Hid (Y = ((List.replicate 32 (0 : UInt8)).map vb).toArray) := ⟨_, rfl⟩
    rw [← hX.out] at HA
    have HX : Hid (X.size = 32) := by rw [Hid, hX.out]; simp
    have HS := Lib.hid (sum_calls w a k c h (by omega))
    clear h
    rw [HE.out]
    go_enter Tryz.func244, Tryz.ntmps244
    go_wp2_with fail
    refine HS.out.mono ?_
    rintro e w2 ⟨rfl, hb2⟩
    obtain ⟨D, hD⟩ : ∃ D, Hid (D = ((sumB k).map vb).toArray) := ⟨_, rfl⟩
    rw [← hD.out]
    have HD : Hid (D.size = 32) := by rw [Hid, hD.out]; simpa using sumB_len k
    have HDo : Hid (D.all (·.oneCell') = true) := by rw [Hid, hD.out]; exact arrB_ok _
    have HN2 : Hid ((w2.alloc (.cells X 53)).heap[w2.heap.size]? = some (.cells X 53 (0, 0))) := heap_alloc_new _ _
    have tA := tag_all w2.heap.size
    have HB2 := Lib.hid hb2
    clear hb2 HS
    go_wp2_with (first
      | ((with_reducible refine wpList_value (o := ⟨some 3, .alloc _, _, _, _, _⟩) (by with_unfolding_all rfl) (HA.out _ _ _ _ _ _) ?_))
      | ((with_reducible refine wpList_storeB (o := ⟨none, .store _ (.tmp 3) (.tmp 8), _, _, _, _⟩) row_tag (.tmp 3) (.tmp 8) (by with_unfolding_all rfl) (by with_unfolding_all rfl) (by with_unfolding_all rfl) (by with_unfolding_all rfl) (by with_unfolding_all rfl) HN2.out HX.out HD.out HDo.out ?_); intro w3 hb3 hS3; have HB3 := Lib.hid hb3; have HS3 := Lib.hid hS3; clear hb3 hS3))
    have hs3 := HS3.out.size
    rw [World.size_alloc] at hs3
    have B3' : Below w2.heap.size w2 w3 := ((Below.refl _ w2).alloc (Nat.le_refl _) (.cells X 53)).trans (HS3.out.below (by simp) (fun j hj => by omega))
    have B3 := HB2.out.trans (B3'.mono HB2.out.size)
    have hR : Row w3 (some ⟨w2.heap.size, 0, none⟩) (sumB k) 32 := by
      have hx := HB3.out
      rw [hD.out] at hx
      have := ArrB.row (T := 53) (l := sumB k) hx (by rw [sumB_len]; decide)
      rwa [sumB_len] at this
    have hc := hclone_calls w3 _ (sumB k) 32 hR (by rw [sumB_len]; decide)
    rw [sumB_len] at hc
    have HC := Lib.hid hc
    clear hR hc B3'
    go_wp2_with fail
    refine HC.out.mono ?_
    rintro e w4 ⟨a4, c4, rfl, hO4, hb4⟩
    have HO4 := Lib.hid (hO4.low B3.size)
    have HB4 := Lib.hid (B3.trans (hb4.mono B3.size))
    clear hO4 hb4
    go_wp2_with fail
    go_ret
    exact ⟨a4, c4, by rw [sumB_len]; rfl, HO4.out, HB4.out⟩
  · have d1 : decide ((64 : Int) < (k.length : Int)) = false := by simp; omega
    have d1' : decide (64 < k.length) = false := by simpa using h64
    have HE : Hid (shortK k = k) := by rw [Hid, shortK, if_neg h64]
    have HC := Lib.hid (hclone_calls w a k c h (by omega))
    clear h
    rw [HE.out]
    go_enter Tryz.func244, Tryz.ntmps244
    go_wp2_with fail
    refine HC.out.mono ?_
    rintro e w4 ⟨a4, c4, rfl, hO4, hb4⟩
    go_wp2_with fail
    go_ret
    exact ⟨a4, c4, rfl, hO4, hb4⟩
end Go.Proofs.YtlholdllibghbaaGreat

