/- The reference's Open, Kind: contracts. -/
import Derived.Test.YtbglmglgaobjmaaFrameOpen
namespace Go.Proofs.Ytbglmglgaobjmaa
open Go Go.RowKit Go.Cit

theorem paylB_length {l : List UInt8} (h : l.length = 64) (hz : szB l ≤ 58) : (paylB l).length = szB l := by
  rw [paylB, List.length_drop, List.length_take]; omega
theorem restB_length {l : List UInt8} (h : l.length = 64) (hz : szB l ≤ 58) : (restB l).length = 58 - szB l := by
  rw [restB, List.length_drop, List.length_take]; omega

theorem bI_toNat (x : UInt8) : bI (x.toNat : Int) = x := by
  unfold bI; simp

/-- A sector in its parts. -/
theorem take60 {l : List UInt8} (h : l.length = 64) (hz : szB l ≤ 58) : l.take 60 = [l.getD 0 0, bI (szB l)] ++ (paylB l ++ restB l) := by
  have h1 : bI (szB l : Int) = l.getD 1 0 := by rw [szB]; exact bI_toNat _
  have e1 : l.take 60 = (l.take (2 + szB l)) ++ restB l := by
    have h2 := (List.take_append_drop (2 + szB l) (l.take 60)).symm
    rw [List.take_take, Nat.min_eq_left (by omega)] at h2
    exact h2
  have e2 : l.take (2 + szB l) = l.take 2 ++ paylB l := by
    have h2 := (List.take_append_drop 2 (l.take (2 + szB l))).symm
    rw [List.take_take, Nat.min_eq_left (by omega)] at h2
    exact h2
  have e3 : l.take 2 = [l.getD 0 0, l.getD 1 0] := by
    match l, h with
    | x :: y :: l, _ => rfl
  rw [e1, e2, e3, h1, List.append_assoc]

/-- The program's opening is the chapter's: sealed again it is the same. -/
theorem open_iff (kind : UInt8) (l : List UInt8) (h : l.length = 64) (hk : l.getD 0 0 = kind) (hz : szB l ≤ 58) : (frameB kind (paylB l) = l) ↔ openB kind l = true := by
  have hp := paylB_length h hz
  have hr := restB_length h hz
  have ht := take60 h hz
  have hb : bodyB l = l.take 60 := by rw [bodyB, h]
  have hH : headB kind (paylB l) = [l.getD 0 0, bI (szB l)] ++ (paylB l ++ List.replicate (58 - szB l) 0) := by rw [headB, hp, hk]
  constructor
  · intro hf
    have h60 : l.take 60 = headB kind (paylB l) := by
      refine (congrArg (List.take 60) hf.symm).trans ?_
      rw [frameB, putB, List.take_append_of_le_length (by rw [headB_length _ _ (by omega)]; decide), List.take_of_length_le (by rw [headB_length _ _ (by omega)]; decide)]
    have hz0 : zeroB l = true := by
      have : restB l = List.replicate (58 - szB l) 0 := by
        have h2 := ht.symm.trans (h60.trans hH)
        exact List.append_cancel_left (List.append_cancel_left h2)
      rw [zeroB, hr, this]; simp
    have hok : okB l = true := by
      rw [okB, hb, h60]
      have : putB (headB kind (paylB l)) = l := hf
      simp [this, h]
    rw [openB, wholeB, h, hok, hz0, hk]; simp [hz]
  · intro ho
    simp only [openB, wholeB, Bool.and_eq_true, decide_eq_true_eq, okB, zeroB] at ho
    obtain ⟨⟨_, ⟨_, hp2⟩, _, hz2⟩, _⟩ := ho
    rw [hr] at hz2
    rw [frameB, hH, ← hz2, ← ht, ← hb]
    exact hp2


theorem refopen_calls (w : World) (kind : UInt8) (a0 : Option Addr) (l : List UInt8) (c0 : Nat) (h0 : Row w a0 l c0) :
    Calls Try.prog 47 #[vb kind, .slice a0 l.length c0] w fun e w' => ∃ a X cp, Hid (X = openedB kind l) ∧ e = .returned (.tuple #[.slice a X.length cp, .int .i64 (oerrB kind l)]) ∧ Mine w.heap.size w' a X cp ∧ Below w.heap.size w w' := by
  have hn : ∀ {p : Prop}, p → p := fun h => h
  by_cases h64 : l.length = 64
  · have HL := Lib.hid h64
    have h1 : 1 < l.length := by omega
    have h00 : 0 < l.length := by omega
    have i0 := h0.index bt.slice bt.sz 0 h00
    have e0 := h0.cell 0 h00
    have i1 := h0.index bt.slice bt.sz 1 h1
    have e1 := h0.cell 1 h1
    rw [show ((0 : Nat) : Int) = 0 from rfl] at i0
    rw [show ((1 : Nat) : Int) = 1 from rfl] at i1
    have k0 : l[0] = l.getD 0 0 := by simp [List.getD, h00]
    have k1 : l[1].toNat = szB l := by rw [szB_get l h1]
    have g64 : ((l.length : Int) != 64) = false := by simp; omega
    clear h64
    by_cases hk : l.getD 0 0 = kind
    · have gk : (l[0] != kind) = false := by rw [k0]; simpa using hk
      by_cases hz : szB l ≤ 58
      · obtain ⟨a1, m, c1, hm, hrun, r1⟩ := h0.part bt.slice bt.sz 2 (2 + szB l) (by omega) (by have := HL.out; omega)
        have HI := Lib.hid (open_iff kind l HL.out hk hz)
        have HM : Hid (m = paylB l) := hm
        have hml : m.length ≤ 58 := by rw [HM.out, paylB_length HL.out hz]; exact hz
        rw [show ((2 + szB l : Nat) : Int) = 2 + (szB l : Int) by omega, show ((2 : Nat) : Int) = 2 from rfl, ← k1] at hrun
        have gz : l[1].toNat ≤ 58 := by rw [k1]; exact hz
        have HK1 := Lib.hid k1
        clear hm k0 k1
        go_enter Try.func47, Try.ntmps47
        go_wp2_with fail
        refine (toXo (copy_calls _ _ _ _ r1 (by omega))).mono ?_
        rintro e w1 ⟨a2, Y, c2, HY, rfl, hm2, hb2⟩
        have HY2 : Hid (Y = paylB l) := by rw [Hid, HY.out, HM.out]
        have hyl : Y.length ≤ 58 := by rw [HY2.out, ← HM.out]; exact hml
        go_wp2_with fail
        refine (reffseal_calls _ kind _ _ _ hm2.row hyl).mono ?_
        rintro e w2 ⟨a3, Z, c3, HZ, rfl, hm3, hb3⟩
        have m2 := hm2.stay hb3
        have B3 : Below w.heap.size w w2 := hb2.trans (hb3.mono hb2.size)
        have r3 := h0.stay B3
        clear hm2 HY hb2 hb3 r1 hk
        go_wp2_with fail
        refine (same_calls _ _ _ _ _ _ _ hm3.row r3).mono ?_
        rintro e w3 ⟨rfl, hd⟩
        have m3 := m2.stay (hd.below _)
        have B4 := B3.trans (hd.below _)
        have HE : Hid ((ordB Z l == 0) = openB kind l) := by
          rw [Hid, ordB_beq, HZ.out, HY2.out]
          have := HI.out
          cases ho : openB kind l
          · rw [ho] at this; simpa using this
          · rw [ho] at this; simpa using this
        clear m2 B3 r3 hm3 HI
        cases ho : openB kind l
        · have HO := Lib.hid ho
          have gs : (ordB Z l == 0) = false := by rw [HE.out, ho]
          clear ho
          go_wp2_with fail
          go_ret2
          exact ⟨none, [], 0, by rw [Hid, openedB, HO.out]; rfl, by rw [oerrB, HO.out]; rfl, Mine.nil _ _, B4⟩
        · have HO := Lib.hid ho
          have gs : (ordB Z l == 0) = true := by rw [HE.out, ho]
          clear ho
          go_wp2_with fail
          go_ret2
          exact ⟨a2, Y, c2, by rw [Hid, openedB, HO.out, HY2.out]; rfl, by rw [oerrB, HO.out]; rfl, m3, B4⟩
      · have HO : Hid (openB kind l = false) := by
          cases ho : openB kind l
          · rfl
          · rw [openB, Bool.and_eq_true] at ho; exact absurd (whole_len ho.1).2 hz
        have gz : 58 < l[1].toNat := by rw [k1]; omega
        clear k0 k1 hk hz
        go_enter Try.func47, Try.ntmps47
        go_wp2_with fail
        go_ret2
        exact ⟨none, [], 0, by rw [Hid, openedB, HO.out]; rfl, by rw [oerrB, HO.out]; rfl, Mine.nil _ _, Below.refl _ _⟩
    · have HO : Hid (openB kind l = false) := by rw [Hid, openB]; simpa using fun _ => hk
      have gk : (l[0] != kind) = true := by rw [k0]; simpa using hk
      clear k0 k1 hk
      go_enter Try.func47, Try.ntmps47
      go_wp2_with fail
      go_ret2
      exact ⟨none, [], 0, by rw [Hid, openedB, HO.out]; rfl, by rw [oerrB, HO.out]; rfl, Mine.nil _ _, Below.refl _ _⟩
  · have HO : Hid (openB kind l = false) := by rw [Hid, openB, wholeB]; simp [h64]
    have g64 : ((l.length : Int) != 64) = true := by simp; omega
    clear h64
    go_enter Try.func47, Try.ntmps47
    go_wp2_with fail
    go_ret2
    exact ⟨none, [], 0, by rw [Hid, openedB, HO.out]; rfl, by rw [oerrB, HO.out]; rfl, Mine.nil _ _, Below.refl _ _⟩

theorem refkind_calls (w : World) (a0 : Option Addr) (l : List UInt8) (c0 : Nat) (h0 : Row w a0 l c0) :
    Calls Try.prog 49 #[.slice a0 l.length c0] w fun e w' => e = .returned (.tuple #[vb (kindB l), .bool (wholeB l)]) ∧ Below w.heap.size w w' := by
  by_cases h64 : l.length = 64
  · have HL := Lib.hid h64
    have h00 : 0 < l.length := by omega
    have i0 := h0.index bt.slice bt.sz 0 h00
    have e0 := h0.cell 0 h00
    rw [show ((0 : Nat) : Int) = 0 from rfl] at i0
    have k0 : Hid (l.getD 0 0 = l[0]) := by simp [Hid, List.getD, h00]
    have g64 : ((l.length : Int) != 64) = false := by simp; omega
    clear h64
    have HE : Hid (openB l[0] l = wholeB l) := by rw [Hid, openB, k0.out]; simp
    go_enter Try.func49, Try.ntmps49
    go_wp2_with fail
    refine (refopen_calls _ _ _ _ _ h0).mono ?_
    rintro e w1 ⟨a1, X, c1, HX, rfl, hm1, hb1⟩
    have r1 := h0.stay hb1
    have j0 := r1.cell 0 h00
    clear h0 e0 hm1
    cases hw : wholeB l
    · have HW := Lib.hid hw
      have go : (oerrB l[0] l != 0) = true := by rw [oerrB, HE.out, hw]; rfl
      clear hw
      go_wp2_with fail
      go_ret2
      exact ⟨by rw [kindB, HW.out]; rfl, hb1⟩
    · have HW := Lib.hid hw
      have go : (oerrB l[0] l != 0) = false := by rw [oerrB, HE.out, hw]; rfl
      clear hw
      go_wp2_with fail
      go_ret2
      exact ⟨by rw [kindB, HW.out, k0.out]; rfl, hb1⟩
  · have HO : Hid (wholeB l = false) := by rw [Hid, wholeB]; simp [h64]
    have g64 : ((l.length : Int) != 64) = true := by simp; omega
    clear h64
    go_enter Try.func49, Try.ntmps49
    go_wp2_with fail
    go_ret2
    exact ⟨by rw [kindB, HO.out]; rfl, Below.refl _ _⟩

end Go.Proofs.Ytbglmglgaobjmaa
