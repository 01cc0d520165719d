/- What was sealed is opened; what was opened, sealed again, is the same; a frame that is otherwise within four bytes, one behind the other, is none. The plain law, no condition. -/
import Derived.Test.YtbglmglgaobjmaaRefFrame
import Derived.Test.YtbglmglgaobjmaaLawCrcTells
namespace Go.Proofs.Ytbglmglgaobjmaa
open Go Go.RowKit Go.Cit

theorem headB_eq (kind : UInt8) (b : List UInt8) : headB kind b = kind :: bI b.length :: (b ++ List.replicate (58 - b.length) 0) := rfl
theorem frameB_eq (kind : UInt8) (b : List UInt8) : frameB kind b = kind :: bI b.length :: (b ++ (List.replicate (58 - b.length) 0 ++ rowB (qOfW (addP 0 (headB kind b))) 4)) := by
  rw [frameB, putB, headB_eq]; simp
theorem frame_kind (kind : UInt8) (b : List UInt8) : (frameB kind b).getD 0 0 = kind := by rw [frameB_eq]; rfl
theorem bI_len (n : Nat) (h : n ≤ 58) : (bI (n : Int)).toNat = n := by
  have := bI_nat (n : Int) (by omega) (by omega); omega
theorem frame_sz (kind : UInt8) (b : List UInt8) (h : b.length ≤ 58) : szB (frameB kind b) = b.length := by
  rw [szB, frameB_eq]; exact bI_len _ h
theorem frame_payl (kind : UInt8) (b : List UInt8) (h : b.length ≤ 58) : paylB (frameB kind b) = b := by
  rw [paylB, frame_sz kind b h, frameB_eq, Nat.add_comm 2]
  show ((kind :: bI b.length :: _).take (b.length + 1 + 1)).drop 2 = b
  rw [List.take_succ_cons, List.take_succ_cons, List.take_left']
  · rfl
  · rfl
theorem frame_open (kind : UInt8) (b : List UInt8) (h : b.length ≤ 58) : openB kind (frameB kind b) = true :=
  (open_iff kind _ (frameB_length kind b h) (frame_kind kind b) (by rw [frame_sz kind b h]; exact h)).1 (by rw [frame_payl kind b h])
theorem frame_whole (kind : UInt8) (b : List UInt8) (h : b.length ≤ 58) : wholeB (frameB kind b) = true := by
  have := frame_open kind b h
  rw [openB, Bool.and_eq_true] at this
  exact this.1
theorem frame_opened (kind : UInt8) (b : List UInt8) (h : b.length ≤ 58) : openedB kind (frameB kind b) = b := by
  rw [openedB, frame_open kind b h, if_pos rfl, frame_payl kind b h]
theorem frame_other (kind other : UInt8) (b : List UInt8) (h : b.length ≤ 58) : openB other (frameB kind b) = (other == kind) := by
  rw [openB, frame_whole kind b h, frame_kind, Bool.true_and, Bool.eq_iff_iff, decide_eq_true_eq, beq_iff_eq]
  exact ⟨fun h => h.symm, fun h => h.symm⟩
theorem kind_frame (kind : UInt8) (b : List UInt8) (h : b.length ≤ 58) : kindB (frameB kind b) = kind := by
  rw [kindB, frame_whole kind b h, if_pos rfl, frame_kind]

/-- What is opened, sealed again, is the same sector. -/
theorem again (kind : UInt8) (s : List UInt8) (h : openB kind s = true) : frameB kind (openedB kind s) = s ∧ (openedB kind s).length ≤ 58 := by
  have h0 := h
  rw [openB, Bool.and_eq_true, decide_eq_true_eq] at h0
  have hw := whole_len h0.1
  rw [openedB, if_pos h]
  exact ⟨(open_iff kind s hw.1 h0.2 hw.2).2 h, by rw [paylB_length hw.1 hw.2]; exact hw.2⟩

theorem not_whole_len {l : List UInt8} (h : l.length ≠ 64) : wholeB l = false := by
  cases hw : wholeB l
  · rfl
  · exact absurd (whole_len hw).1 h

theorem body_frame (l : List UInt8) (h : l.length = 64) : bodyB l = l.take 60 := by rw [bodyB, h]

theorem over_cons (X : List UInt8) (p q : List UInt8) (k : Nat) : ∀ t, k + t ≤ p.length → overB X k t (p ++ q) = overB X k t p ++ q
  | 0, _ => rfl
  | t + 1, h => by
    have hl := overB_length X k t p
    rw [overB, over_cons X p q k t (by omega), overB, List.set_append_left _ _ (by omega)]
    have e : (overB X k t p ++ q).getD (k + t) 0 = (overB X k t p).getD (k + t) 0 := by simp [List.getD, List.getElem?_append_left (show k + t < (overB X k t p).length by omega)]
    rw [e]

theorem frame_over (kind : UInt8) (b : List UInt8) (h : b.length ≤ 58) (k : Nat) (over : UInt32) (hk : k ≤ 56 ∨ k = 60) (ho : over ≠ 0) :
    wholeB (overB (rowB (qOfW over) 4) k 4 (frameB kind b)) = false := by
  cases hw : wholeB (overB (rowB (qOfW over) 4) k 4 (frameB kind b))
  · rfl
  · exfalso
    have h64 : (overB (rowB (qOfW over) 4) k 4 (frameB kind b)).length = 64 := by rw [overB_length, frameB_length kind b h]
    have hok : okB (overB (rowB (qOfW over) 4) k 4 (frameB kind b)) = true := by
      simp only [wholeB, Bool.and_eq_true, decide_eq_true_eq] at hw; exact hw.2.1
    rw [okB, Bool.and_eq_true, decide_eq_true_eq, decide_eq_true_eq, body_frame _ h64] at hok
    have hp := hok.2
    have hH := headB_length kind b h
    rcases hk with hk | rfl
    · have e0 : overB (rowB (qOfW over) 4) k 4 (frameB kind b) = overB (rowB (qOfW over) 4) k 4 (headB kind b) ++ rowB (qOfW (addP 0 (headB kind b))) 4 := over_cons _ _ _ k 4 (by omega)
      rw [e0, List.take_left' (by rw [overB_length, hH]), putB] at hp
      have h3 := row4_inj (List.append_cancel_left hp)
      have h4 := (over_four (rowB (qOfW over) 4) (headB kind b) k (by omega) (rowB_length _ _)).1 h3.symm
      exact ho ((row_zero over).1 h4)
    · have e : overB (rowB (qOfW over) 4) 60 4 (frameB kind b) = headB kind b ++ overB (rowB (qOfW over) 4) 0 4 (rowB (qOfW (addP 0 (headB kind b))) 4) := by
        rw [frameB, putB]
        generalize rowB (qOfW (addP 0 (headB kind b))) 4 = R
        generalize rowB (qOfW over) 4 = X
        rw [← hH]
        generalize headB kind b = H
        have : ∀ t, overB X H.length t (H ++ R) = H ++ overB X 0 t R := by
          intro t
          induction t with
          | zero => rfl
          | succ t ih =>
            rw [overB, ih, overB, List.set_append_right _ _ (by omega), Nat.add_sub_cancel_left, Nat.zero_add]
            have e : (H ++ overB X 0 t R).getD (H.length + t) 0 = (overB X 0 t R).getD t 0 := by simp only [List.getD]; rw [List.getElem?_append_right (by omega), Nat.add_sub_cancel_left]
            rw [e]
        exact this 4
      rw [e, List.take_left' hH, putB] at hp
      have h2 := List.append_cancel_left hp
      have hz : rowB (qOfW over) 4 = [0, 0, 0, 0] := by
        have hR : (rowB (qOfW (addP 0 (headB kind b))) 4).length = 4 := rowB_length _ _
        have hX : (rowB (qOfW over) 4).length = 4 := rowB_length _ _
        generalize rowB (qOfW (addP 0 (headB kind b))) 4 = R at h2 hR
        generalize rowB (qOfW over) 4 = X at h2 hX
        match R, hR, X, hX with
        | [r0, r1, r2, r3], _, [x0, x1, x2, x3], _ =>
          simp [overB] at h2
          obtain ⟨a0, a1, a2, a3⟩ := h2
          have z : ∀ r x : UInt8, r = bXor r x → x = 0 := fun r x hx => by
            by_cases h0 : x = 0
            · exact h0
            · exact absurd hx (xor_ne r x h0)
          rw [z _ _ a0, z _ _ a1, z _ _ a2, z _ _ a3]
      exact ho ((row_zero over).1 hz)
end Go.Proofs.Ytbglmglgaobjmaa
