/- Chapter 15: slot.Write, slot.Read where they are refused, or the disk is down. -/
import Derived.Test.YtofagofpeedfcaaGreatSlot5
namespace Go.Proofs.YtofagofpeedfcaaGreat
open Go Go.RowKit Go.Cit Go.Shelf
attribute [local go_sem] Oper.semAt_some

set_option maxRecDepth 100000 in
set_option maxHeartbeats 2000000 in
theorem swrite_ref (w : World) (q : Option Addr) (s at_ : Int) (a : Option Addr) (n c : Nat) (E : Int) (hE : E ≠ 0) (hn : n ≤ 9223372036854775807)
    (hrf : ∀ W, Below w.heap.size w W → Calls Tryz.prog 33 #[.pointer q, .int .i64 s, .int .i64 at_, .int .i64 (n : Int)] W fun e w' => e = .returned (.int .i64 E) ∧ w' = W) :
    Calls Tryz.prog 10 #[.pointer q, .int .i64 s, .int .i64 at_, .slice a n c] w fun e w' => e = .returned (.int .i64 E) ∧ Below w.heap.size w w' := by
  refine (callsIn_wide (n := 3)).1 ?_
  refine callsIn_of_wp_marks Tryz.func10 rfl trivial ?_ rfl
  simp only [Tryz.ntmps10, List.size_toArray, List.length_cons, List.length_nil, Nat.reduceAdd, Nat.reduceSub, Array.replicate_succ, Array.replicate_zero, List.push_toArray, List.append_toArray, List.nil_append, List.cons_append]
  have HRF := Lib.hid hrf
  clear hrf
  gi_wp2
  obtain ⟨w3, hw3⟩ : ∃ w3, w3 = ((w.alloc (.cells #[.pointer q] 24)).alloc (.cells #[.slice a n c] 31)).alloc (.cells #[.int .i64 0] 25) := ⟨_, rfl⟩
  have hB3 : Below w.heap.size w w3 := by rw [hw3]; exact (((Below.refl _ w).alloc (Nat.le_refl _) _).alloc (by simp) _).alloc (by simp; omega) _
  have hz3 : w3.heap.size = w.heap.size + 3 := by rw [hw3]; simp
  have bE : w3.heap[w.heap.size + 2]? = some (.cells #[.int .i64 0] 25 (0, 0)) := by
    rw [hw3]
    have := Boxed.new ((w.alloc (.cells #[.pointer q] 24)).alloc (.cells #[.slice a n c] 31)) 25 (.int .i64 0)
    rw [World.size_alloc, World.size_alloc] at this
    exact this
  rw [← hw3]
  clear hw3
  have HZ3 := Lib.hid hz3
  have HB3 := Lib.hid hB3
  have HBE := Lib.hid bE
  have ke := cell_of_one bE
  have fe := free_of_one bE
  have t0 : (E == 0) = false := by simp [hE]
  clear hz3 hB3 bE
  refine ⟨trivial, (callsIn_wide.2 (HRF.out w3 HB3.out)).mono ?_⟩
  rintro e w' ⟨rfl, rfl⟩
  gi_wp2
  have he2 := cell_of_one (one_setCell HBE.out (u := .int .i64 E))
  refine ⟨_, results_cell1 rfl _ _ rfl (load_cell1 agErr he2), rfl, HB3.out.trans ((Save.set (w := w')).below (S := (· ≠ w.heap.size + 2)) HB3.out.size (fun k hk => by omega))⟩
set_option maxRecDepth 100000 in
set_option maxHeartbeats 2000000 in
theorem sread_ref (w : World) (q : Option Addr) (s n : Int) (E : Int) (hE : E ≠ 0)
    (hrf : ∀ W, Below w.heap.size w W → Calls Tryz.prog 33 #[.pointer q, .int .i64 s, .int .i64 0, .int .i64 n] W fun e w' => e = .returned (.int .i64 E) ∧ w' = W) :
    Calls Tryz.prog 13 #[.pointer q, .int .i64 s, .int .i64 n] w fun e w' => e = .returned (.tuple #[.slice none 0 0, .int .i64 E]) ∧ Below w.heap.size w w' := by
  refine (callsIn_wide (n := 3)).1 ?_
  refine callsIn_of_wp_marks Tryz.func13 rfl trivial ?_ rfl
  simp only [Tryz.ntmps13, List.size_toArray, List.length_cons, List.length_nil, Nat.reduceAdd, Nat.reduceSub, Array.replicate_succ, Array.replicate_zero, List.push_toArray, List.append_toArray, List.nil_append, List.cons_append]
  have HRF := Lib.hid hrf
  clear hrf
  gi_wp2
  obtain ⟨w3, hw3⟩ : ∃ w3, w3 = ((w.alloc (.cells #[.pointer q] 24)).alloc (.cells #[.slice none 0 0] 31)).alloc (.cells #[.int .i64 0] 25) := ⟨_, rfl⟩
  have hB3 : Below w.heap.size w w3 := by rw [hw3]; exact (((Below.refl _ w).alloc (Nat.le_refl _) _).alloc (by simp) _).alloc (by simp; omega) _
  have hz3 : w3.heap.size = w.heap.size + 3 := by rw [hw3]; simp
  have bE : w3.heap[w.heap.size + 2]? = some (.cells #[.int .i64 0] 25 (0, 0)) := by
    rw [hw3]
    have := Boxed.new ((w.alloc (.cells #[.pointer q] 24)).alloc (.cells #[.slice none 0 0] 31)) 25 (.int .i64 0)
    rw [World.size_alloc, World.size_alloc] at this
    exact this
  have bR : w3.heap[w.heap.size + 1]? = some (.cells #[.slice none 0 0] 31 (0, 0)) := by
    rw [hw3]
    have := Boxed.new (w.alloc (.cells #[.pointer q] 24)) 31 (.slice none 0 0)
    rw [World.size_alloc] at this
    exact this.alloc _
  rw [← hw3]
  clear hw3
  have HZ3 := Lib.hid hz3
  have HB3 := Lib.hid hB3
  have HBE := Lib.hid bE
  have HBR := Lib.hid bR
  have kr := cell_of_one bR
  have fr := free_of_one bR
  have ke := cell_of_one bE
  have fe := free_of_one bE
  have t0 : (E == 0) = false := by simp [hE]
  clear hz3 hB3 bE bR
  refine ⟨trivial, (callsIn_wide.2 (HRF.out w3 HB3.out)).mono ?_⟩
  rintro e w' ⟨rfl, rfl⟩
  gi_wp2
  have hsw : Save (fun k => k ≠ w.heap.size + 1 ∧ k ≠ w.heap.size + 2) w' ((w'.setCell ⟨w.heap.size + 1, 0, none⟩ (.slice none 0 0)).setCell ⟨w.heap.size + 1 + 1, 0, none⟩ (.int .i64 E)) := (Save.set.less fun k _ h => h.1).trans (Save.set.less fun k _ h => h.2)
  have hr2 : ((w'.setCell ⟨w.heap.size + 1, 0, none⟩ (.slice none 0 0)).setCell ⟨w.heap.size + 1 + 1, 0, none⟩ (.int .i64 E)).heap[w.heap.size + 1]? = some (.cells #[.slice none 0 0] 31 (0, 0)) := (Below.heap_setCell _ _ _ _ (by show w.heap.size + 1 ≠ w.heap.size + 1 + 1; omega)).trans (one_setCell HBR.out)
  have he1 : (w'.setCell ⟨w.heap.size + 1, 0, none⟩ (.slice none 0 0)).heap[w.heap.size + 2]? = some (.cells #[.int .i64 0] 25 (0, 0)) := (Below.heap_setCell _ _ _ _ (by show w.heap.size + 2 ≠ w.heap.size + 1; omega)).trans HBE.out
  exact ⟨_, results_cell2 rfl _ _ rfl (load_cell1 agRow (cell_of_one hr2)) rfl (load_cell1 agErr (cell_of_one (one_setCell he1))), rfl, HB3.out.trans (hsw.below HB3.out.size (fun k hk => ⟨by omega, by omega⟩))⟩
set_option maxRecDepth 100000 in
set_option maxHeartbeats 2000000 in
theorem swrite_down (w : World) (q : Option Addr) (s at_ : Int) (a : Option Addr) (n c : Nat) (hn : n ≤ 9223372036854775807)
    (hrf : ∀ W, Below w.heap.size w W → Calls Tryz.prog 33 #[.pointer q, .int .i64 s, .int .i64 at_, .int .i64 (n : Int)] W fun e w' => e = .returned (.int .i64 0) ∧ w' = W)
    (hup : ∀ W, Below w.heap.size w W → Calls Tryz.prog 28 #[.pointer q] W fun e w' => e = .returned (.bool false) ∧ w' = W) :
    Calls Tryz.prog 10 #[.pointer q, .int .i64 s, .int .i64 at_, .slice a n c] w fun e w' => e = .returned (.int .i64 60) ∧ Below w.heap.size w w' := by
  refine (callsIn_wide (n := 3)).1 ?_
  refine callsIn_of_wp_marks Tryz.func10 rfl trivial ?_ rfl
  simp only [Tryz.ntmps10, List.size_toArray, List.length_cons, List.length_nil, Nat.reduceAdd, Nat.reduceSub, Array.replicate_succ, Array.replicate_zero, List.push_toArray, List.append_toArray, List.nil_append, List.cons_append]
  have HRF := Lib.hid hrf
  have HUP := Lib.hid hup
  clear hrf hup
  gi_wp2
  obtain ⟨w3, hw3⟩ : ∃ w3, w3 = ((w.alloc (.cells #[.pointer q] 24)).alloc (.cells #[.slice a n c] 31)).alloc (.cells #[.int .i64 0] 25) := ⟨_, rfl⟩
  have hB3 : Below w.heap.size w w3 := by rw [hw3]; exact (((Below.refl _ w).alloc (Nat.le_refl _) _).alloc (by simp) _).alloc (by simp; omega) _
  have hz3 : w3.heap.size = w.heap.size + 3 := by rw [hw3]; simp
  have bE : w3.heap[w.heap.size + 2]? = some (.cells #[.int .i64 0] 25 (0, 0)) := by
    rw [hw3]
    have := Boxed.new ((w.alloc (.cells #[.pointer q] 24)).alloc (.cells #[.slice a n c] 31)) 25 (.int .i64 0)
    rw [World.size_alloc, World.size_alloc] at this
    exact this
  have bD : w3.heap[w.heap.size]? = some (.cells #[.pointer q] 24 (0, 0)) := by
    rw [hw3]; exact ((Boxed.new w 24 (.pointer q)).alloc _).alloc _
  rw [← hw3]
  clear hw3
  have HZ3 := Lib.hid hz3
  have HB3 := Lib.hid hB3
  have HBE := Lib.hid bE
  have kd : w3.cell? ⟨w.heap.size, 0, none⟩ = some (.pointer q) := cell_of_one bD
  have ke := cell_of_one bE
  have fe := free_of_one bE
  clear hz3 hB3 bE bD
  refine ⟨trivial, (callsIn_wide.2 (HRF.out w3 HB3.out)).mono ?_⟩
  rintro e w' ⟨rfl, rfl⟩
  gi_wp2
  refine ⟨trivial, (callsIn_wide.2 (HUP.out w' HB3.out)).mono ?_⟩
  rintro e w' ⟨rfl, rfl⟩
  gi_wp2
  have he2 := cell_of_one (one_setCell HBE.out (u := .int .i64 60))
  refine ⟨_, results_cell1 rfl _ _ rfl (load_cell1 agErr he2), rfl, HB3.out.trans ((Save.set (w := w')).below (S := (· ≠ w.heap.size + 2)) HB3.out.size (fun k hk => by omega))⟩
set_option maxRecDepth 100000 in
set_option maxHeartbeats 2000000 in
theorem sread_down (w : World) (q : Option Addr) (s n : Int) 
    (hrf : ∀ W, Below w.heap.size w W → Calls Tryz.prog 33 #[.pointer q, .int .i64 s, .int .i64 0, .int .i64 n] W fun e w' => e = .returned (.int .i64 0) ∧ w' = W)
    (hup : ∀ W, Below w.heap.size w W → Calls Tryz.prog 28 #[.pointer q] W fun e w' => e = .returned (.bool false) ∧ w' = W) :
    Calls Tryz.prog 13 #[.pointer q, .int .i64 s, .int .i64 n] w fun e w' => e = .returned (.tuple #[.slice none 0 0, .int .i64 60]) ∧ Below w.heap.size w w' := by
  refine (callsIn_wide (n := 3)).1 ?_
  refine callsIn_of_wp_marks Tryz.func13 rfl trivial ?_ rfl
  simp only [Tryz.ntmps13, List.size_toArray, List.length_cons, List.length_nil, Nat.reduceAdd, Nat.reduceSub, Array.replicate_succ, Array.replicate_zero, List.push_toArray, List.append_toArray, List.nil_append, List.cons_append]
  have HRF := Lib.hid hrf
  have HUP := Lib.hid hup
  clear hrf hup
  gi_wp2
  obtain ⟨w3, hw3⟩ : ∃ w3, w3 = ((w.alloc (.cells #[.pointer q] 24)).alloc (.cells #[.slice none 0 0] 31)).alloc (.cells #[.int .i64 0] 25) := ⟨_, rfl⟩
  have hB3 : Below w.heap.size w w3 := by rw [hw3]; exact (((Below.refl _ w).alloc (Nat.le_refl _) _).alloc (by simp) _).alloc (by simp; omega) _
  have hz3 : w3.heap.size = w.heap.size + 3 := by rw [hw3]; simp
  have bE : w3.heap[w.heap.size + 2]? = some (.cells #[.int .i64 0] 25 (0, 0)) := by
    rw [hw3]
    have := Boxed.new ((w.alloc (.cells #[.pointer q] 24)).alloc (.cells #[.slice none 0 0] 31)) 25 (.int .i64 0)
    rw [World.size_alloc, World.size_alloc] at this
    exact this
  have bR : w3.heap[w.heap.size + 1]? = some (.cells #[.slice none 0 0] 31 (0, 0)) := by
    rw [hw3]
    have := Boxed.new (w.alloc (.cells #[.pointer q] 24)) 31 (.slice none 0 0)
    rw [World.size_alloc] at this
    exact this.alloc _
  have bD : w3.heap[w.heap.size]? = some (.cells #[.pointer q] 24 (0, 0)) := by
    rw [hw3]; exact ((Boxed.new w 24 (.pointer q)).alloc _).alloc _
  rw [← hw3]
  clear hw3
  have HZ3 := Lib.hid hz3
  have HB3 := Lib.hid hB3
  have HBE := Lib.hid bE
  have kd : w3.cell? ⟨w.heap.size, 0, none⟩ = some (.pointer q) := cell_of_one bD
  have HBR := Lib.hid bR
  have kr := cell_of_one bR
  have fr := free_of_one bR
  have ke := cell_of_one bE
  have fe := free_of_one bE
  clear hz3 hB3 bE bR bD
  refine ⟨trivial, (callsIn_wide.2 (HRF.out w3 HB3.out)).mono ?_⟩
  rintro e w' ⟨rfl, rfl⟩
  gi_wp2
  refine ⟨trivial, (callsIn_wide.2 (HUP.out w' HB3.out)).mono ?_⟩
  rintro e w' ⟨rfl, rfl⟩
  gi_wp2
  have hsw : Save (fun k => k ≠ w.heap.size + 1 ∧ k ≠ w.heap.size + 2) w' ((w'.setCell ⟨w.heap.size + 1, 0, none⟩ (.slice none 0 0)).setCell ⟨w.heap.size + 1 + 1, 0, none⟩ (.int .i64 60)) := (Save.set.less fun k _ h => h.1).trans (Save.set.less fun k _ h => h.2)
  have hr2 : ((w'.setCell ⟨w.heap.size + 1, 0, none⟩ (.slice none 0 0)).setCell ⟨w.heap.size + 1 + 1, 0, none⟩ (.int .i64 60)).heap[w.heap.size + 1]? = some (.cells #[.slice none 0 0] 31 (0, 0)) := (Below.heap_setCell _ _ _ _ (by show w.heap.size + 1 ≠ w.heap.size + 1 + 1; omega)).trans (one_setCell HBR.out)
  have he1 : (w'.setCell ⟨w.heap.size + 1, 0, none⟩ (.slice none 0 0)).heap[w.heap.size + 2]? = some (.cells #[.int .i64 0] 25 (0, 0)) := (Below.heap_setCell _ _ _ _ (by show w.heap.size + 2 ≠ w.heap.size + 1; omega)).trans HBE.out
  exact ⟨_, results_cell2 rfl _ _ rfl (load_cell1 agRow (cell_of_one hr2)) rfl (load_cell1 agErr (cell_of_one (one_setCell he1))), rfl, HB3.out.trans (hsw.below HB3.out.size (fun k hk => ⟨by omega, by omega⟩))⟩
end Go.Proofs.YtofagofpeedfcaaGreat
