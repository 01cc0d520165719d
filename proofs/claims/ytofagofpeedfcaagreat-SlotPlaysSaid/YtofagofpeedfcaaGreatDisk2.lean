/- disk.Disk's Dirty: walked, over slices.Sorted(maps.Keys(..)). -/
import Derived.Test.YtofagofpeedfcaaGreatDisk1
import Derived.Test.YtofagofpeedfcaaGreatKeys
namespace Go.Proofs.YtofagofpeedfcaaGreat
open Go Go.RowKit Go.Cit Go.Maps Go.Sort

abbrev iv (z : Int) : List Value := [.int .i64 z]
theorem etZ : ElemType Tryz.prog 64 3 1 8 (.int .i64 0) := ⟨Tryz.underlying64, by kernel_rfl, fun w => by kernel_rfl, rfl, by decide, by decide⟩
def dirtyI (C : CacheV) : List Int := (dirtyL C).map Int.ofNat
theorem dirtyI_sort {C : CacheV} {ss : List Int} (h : ss.Perm (dirtyI C)) : ss.mergeSort (fun x y => decide (x ≤ y)) = dirtyI C := by
  rw [mergeSort_of_perm_i h]
  refine List.mergeSort_of_pairwise ?_
  unfold dirtyI
  refine List.pairwise_map.2 ((dirtyL_asc C).imp fun {a b} hab => ?_)
  simp only [decide_eq_true_eq, Int.ofNat_eq_natCast]
  omega
theorem keys_calls (mb : Option Nat) (W : World) : Calls Tryz.prog 55 #[.map mb] W fun e w' => e = .returned (.func (.func 74) #[] #[.pointer (some ⟨W.heap.size, 0, none⟩)]) ∧ w' = W.alloc (.cells #[.map mb] 37) :=
  (callsIn_wide (n := 5)).1 (AnyZI.keys_in Tryz.keysA Fence.wide 5 trivial rfl mb W)
theorem sortsA (m : Nat) : AnyZI.SortsIn Tryz.prog Tryz.sortedA_ren Fence.wide m :=
  ⟨fun blk off cap ss W hH hblk hsz => callsIn_wide.2 (AnyM.slices_Sort_int Tryz.sortA blk off cap ss W hH hblk hsz),
   fun p cap W => callsIn_wide.2 (AnyM.slices_Sort_int_none Tryz.sortA p cap W)⟩
set_option maxHeartbeats 1000000 in
theorem sorted_calls (w : World) (mb : Nat) (C : CacheV) (h : CM w mb C) (hC : C.length ≤ 1000000) :
    Calls Tryz.prog 54 #[.func (.func 74) #[] #[.pointer (some ⟨w.heap.size, 0, none⟩)]] (w.alloc (.cells #[.map (some mb)] 37)) fun e w' =>
      ∃ a c, e = .returned (.slice a (dirtyI C).length c) ∧ VOwn iv 1 3 w.heap.size w' a (dirtyI C) c ∧ Below w.heap.size w w' := by
  refine (callsIn_wide (n := 6)).1 ?_
  obtain ⟨D0, hown, hperm, hsz⟩ := h.owns (P := Tryz.prog) (K := 3) Tryz.underlying3 (by omega)
  have hbl := hown.lt
  have hseq : SeqGives Fence.wide 3 Tryz.prog 74 #[.pointer (some ⟨w.heap.size, 0, none⟩)] encZ (fun ss => ss.Perm (intKeys D0)) (Maps.size D0) (w.alloc (.cells #[.map (some mb)] 37)) :=
    AnyZI.keys_gives (ρ := Tryz.keysA_ren) { Tryz.keysA with } Fence.wide _ trivial rfl (by omega) w.heap.size mb C.length D0 _ (by simp) (by simp) (by
      obtain ⟨es, clock, hb, Ft, hs, hD⟩ := hown
      exact ⟨es, clock, (Below.heap_alloc _ _ mb hbl).trans hb, Ft, hs, hD⟩)
  have cS := AnyZI.sorted_in Tryz.sortedA Fence.wide 6 trivial trivial trivial trivial rfl (by omega) (sortsA _) (enters_of Tryz.func73 (by kernel_rfl) rfl) 74 #[.pointer (some ⟨w.heap.size, 0, none⟩)] trivial (enters_of Tryz.func74 (by kernel_rfl) rfl) _ _ (by unfold maxLen; omega) (by omega) _ hseq
  change CallsIn _ _ Tryz.prog 54 _ _ _ at cS
  refine cS.mono ?_
  rintro e w' ⟨v, ss, rfl, hS, hrow, hnil, hb⟩
  have hp : ss.Perm (dirtyI C) := hS.trans hperm.symm
  rw [dirtyI_sort hp, hp.length_eq] at hrow
  obtain ⟨a, c, rfl⟩ : ∃ a c, v = .slice a (dirtyI C).length c := by
    rcases hrow.2 with ⟨hv, hn⟩ | ⟨g', c', cur, hv, _⟩
    · exact ⟨none, 0, by rw [hv, hn]⟩
    · exact ⟨some ⟨g', 0, none⟩, c', hv⟩
  refine ⟨a, c, rfl, ?_, ((Below.refl _ w).alloc (Nat.le_refl _) _).trans (hb.mono (by simp))⟩
  have : (dirtyI C).map encZ = (dirtyI C).flatMap iv := by
    generalize dirtyI C = l
    induction l with
    | nil => rfl
    | cons x l ih => rw [List.map_cons, List.flatMap_cons, ih]; rfl
  rw [this] at hrow
  exact VOwn.low (B := (w.alloc (.cells #[.map (some mb)] 37)).heap.size) ⟨hrow⟩ (by simp)

set_option maxRecDepth 100000 in
theorem dirty_calls (w : World) (p : Pl) (D : Dk) (h : DiskAt w p D) : Calls Tryz.prog 26 #[.pointer (some ⟨p.b, 0, none⟩)] w fun e w' =>
    ∃ a c, e = .returned (.slice a (dirtyI D.C).length c) ∧ VOwn iv 1 3 w.heap.size w' a (dirtyI D.C) c ∧ Below w.heap.size w w' := by
  obtain ⟨_, _, c2, _⟩ := h.cells
  have hc := none_calls w p D h
  have hS := sorted_calls w p.mb D.C h.map (by have := h.ok.few; have := h.ok.len; omega)
  clear h
  go_enter Tryz.func26, Tryz.ntmps26
  go_wp2_with fail
  refine (hc).mono ?_
  rintro e w2 ⟨rfl, rfl⟩
  go_wp2_with fail
  refine (keys_calls _ _).mono ?_
  rintro e w3 ⟨rfl, rfl⟩
  go_wp2_with fail
  refine (hS).mono ?_
  rintro e w4 ⟨a, c, rfl, hO, hB⟩
  go_wp2_with fail
  go_ret
  exact ⟨a, c, rfl, hO, hB⟩
set_option maxRecDepth 100000 in
theorem dirty_nil (w : World) (v : Value) (h : NoDisk w v) : Calls Tryz.prog 26 #[v] w fun e w' => e = .returned (.slice none 0 0) ∧ w' = w := by
  have hc := none_nil w v h
  clear h
  go_enter Tryz.func26, Tryz.ntmps26
  go_wp2_with fail
  refine (hc).mono ?_
  rintro e w2 ⟨rfl, rfl⟩
  go_wp2_with fail
  go_ret
  exact ⟨rfl, rfl⟩
end Go.Proofs.YtofagofpeedfcaaGreat
