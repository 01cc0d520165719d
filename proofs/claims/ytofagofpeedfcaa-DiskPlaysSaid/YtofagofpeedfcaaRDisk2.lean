/- The reference's disk: Dirty, Start, Arm: walked. -/
import Derived.Test.YtofagofpeedfcaaRDisk1
namespace Go.Proofs.Ytofagofpeedfcaa
open Go Go.RowKit Go.Cit

/-- The numbers below k that are in a cache. -/
def dirtyP (C : CacheV) (k : Nat) : List Nat := (List.range k).filter fun j => (C[j]?.join).isSome
theorem dirtyP_all (C : CacheV) : dirtyP C C.length = dirtyL C := rfl
theorem dirtyP_succ (C : CacheV) (k : Nat) : dirtyP C (k + 1) = dirtyP C k ++ if (C[k]?.join).isSome then [k] else [] := by
  unfold dirtyP
  rw [List.range_succ, List.filter_append]
  congr 1
  simp only [List.filter_cons, List.filter_nil]
theorem dirtyP_len (C : CacheV) (k : Nat) : (dirtyP C k).length ≤ k := by
  unfold dirtyP
  exact Nat.le_trans (List.length_filter_le _ _) (by simp)
theorem dirtyP_take (C : CacheV) {k : Nat} (hk : k ≤ C.length) : dirtyP C k = (dirtyL C).take (dirtyP C k).length := by
  have : dirtyL C = dirtyP C k ++ ((List.range (C.length - k)).map (k + ·)).filter fun j => (C[j]?.join).isSome := by
    unfold dirtyP dirtyL
    rw [← List.filter_append, ← List.range_add, Nat.add_sub_cancel' hk]
  rw [this, List.take_left]
theorem RefIn.some_ {w : World} {r : Rl} {D : Dk} {L : List Ro} {c sc : Nat} {sa : Option Addr} (h : RefIn w r D L c sa sc) (i : Nat) (hi : i < L.length) : (D.C[i]?.join).isSome = L[i].ka.isSome := by
  rw [h.hC]
  simp only [List.getElem?_map, List.getElem?_eq_getElem hi, Option.map_some, Option.join_some, Ro.cache]
  cases L[i].ka <;> rfl
theorem iv_len : ∀ x, (iv x).length = 1 := fun _ => rfl
theorem iv_one : ∀ x, ∀ u ∈ iv x, u.oneCell' = true := by
  intro x u hu
  obtain rfl : u = .int .i64 x := by simpa using hu
  rfl
set_option maxRecDepth 100000 in
set_option maxHeartbeats 1000000 in
theorem rdirty_calls (w : World) (r : Rl) (D : Dk) (h : RefAt w r D) : Calls Try.prog 52 #[.pointer (some ⟨r.b, 0, none⟩)] w fun e w' =>
    ∃ a c, e = .returned (.slice a (dirtyI D.C).length c) ∧ VOwn iv 1 3 w.heap.size w' a (dirtyI D.C) c ∧ Below w.heap.size w w' := by
  obtain ⟨L, c, sa, sc, h⟩ := h
  have HLN := Lib.hid h.len
  have hfew : L.length ≤ 1024 := by rw [h.len]; exact h.ok.few
  have HC : Hid (D.C.length = L.length) := by rw [Hid, h.hC, List.length_map]
  have HH := Lib.hid h
  have hns := nilSl
  clear h
  go_enter Try.func52, Try.ntmps52
  go_wp2_with fail
  go_loopw [3, 4] (fun o i wr => ∃ (k : Nat) (a : Option Addr) (c2 : Nat), k ≤ L.length ∧ i = .int .i64 (k : Int) ∧ o = .slice a ((dirtyP D.C k).map Int.ofNat).length c2 ∧ Hid (VOwn iv 1 3 w.heap.size wr a ((dirtyP D.C k).map Int.ofNat) c2 ∧ Below w.heap.size w wr)) (fun _ i _ => L.length - (intOf i).toNat)
  case atStart => exact ⟨0, none, 0, Nat.zero_le _, rfl, rfl, VOwn.nil_ _ _ _ _ _, Below.refl _ _⟩
  case round =>
    obtain ⟨k, a, c2, hk, rfl, rfl, HR⟩ := hrel
    have HI := Lib.hid (HH.out.stay HR.out.2)
    obtain ⟨c0, _⟩ := HI.out.cells
    by_cases hlt : k < L.length
    · have hx := fun w => ro_index r.lb L.length c k hlt w
      obtain ⟨_, e1⟩ := HI.out.elem k hlt
      have HS := Lib.hid (HH.out.some_ k hlt)
      have HP := Lib.hid (dirtyP_succ D.C k)
      have HPL := Lib.hid (dirtyP_len D.C k)
      generalize L[k].k.length = n1 at e1
      generalize L[k].kc = n2 at e1
      cases hka : L[k].ka with
      | none =>
        have HE : Hid (dirtyP D.C (k + 1) = dirtyP D.C k) := by rw [Hid, HP.out, HS.out, hka]; simp
        rw [hka] at e1
        clear hka HS HP
        go_wp2_with fail
        go_roundw
        case rel => exact ⟨k + 1, a, c2, hlt, by go_num, by rw [HE.out], by rw [Hid, HE.out]; exact HR.out⟩
        case measure => simp [intOf]; omega
      | some ad0 =>
        have HE : Hid ((dirtyP D.C (k + 1)).map Int.ofNat = (dirtyP D.C k).map Int.ofNat ++ [(k : Int)]) := by rw [Hid, HP.out, HS.out, hka]; simp
        rw [hka] at e1
        clear hka HS HP
        obtain ⟨Z, hZ⟩ : ∃ Z, Hid (Z = (dirtyP D.C k).map Int.ofNat) := ⟨_, rfl⟩
        have HZL : Hid (Z.length ≤ 1024) := by rw [Hid, hZ.out, List.length_map]; have := HPL.out; omega
        rw [← hZ.out] at HR HE ⊢
        go_wp2_with ((with_reducible refine wpList_vapp1 (o := ⟨some 26, .call _, _, _, _, _⟩) etZ iv_len iv_one (.tmp 23) (.tmp 25) (by with_unfolding_all rfl) (by with_unfolding_all rfl) HR.out.1 (y := (k : Int)) (by with_unfolding_all rfl) (by have := HZL.out; omega) HR.out.2.size (by with_unfolding_all rfl) (by with_unfolding_all rfl) ?_); intro a3 c3 w3 hO3 hg3 hn3; rw [← HE.out] at hO3 ⊢; have HO3 := Lib.hid hO3; have HG3 := Lib.hid (HR.out.2.trans (HR.out.1.grown hg3 HR.out.2.size)); clear hO3 hg3 hn3)
        go_roundw
        case rel => exact ⟨k + 1, a3, c3, hlt, by go_num, by rw [List.length_map], HO3.out, HG3.out⟩
        case measure => simp [intOf]; omega
    · have HE : Hid ((dirtyP D.C k).map Int.ofNat = dirtyI D.C) := by rw [Hid, show k = D.C.length by have := HC.out; omega, dirtyP_all]; rfl
      rw [HE.out]
      rw [HE.out] at HR
      go_wp2_with fail
      go_ret
      exact ⟨a, c2, rfl, HR.out.1, HR.out.2⟩

theorem RefIn.turn {w w' : World} {r : Rl} {D D' : Dk} {L : List Ro} {c sc sc' : Nat} {sa sa' : Option Addr} (h : RefIn w r D L c sa sc) (hs : Save (· ≠ r.b) w w') (hS : D'.S = D.S) (hC : D'.C = D.C) (hok : D'.Ok)
    (hb : w'.heap[r.b]? = some (.cells (rdCells r D' L.length c sa' sc') 89 (0, 0))) (hr : Row w' sa' D'.stay sc') (ha : r.In w'.heap.size sa') : RefIn w' r D' L c sa' sc' :=
  ⟨hb, h.held.save (fun _ => rfl) hs (Ne.symm h.ne), fun x hx => (h.rows x hx).save hs (fun k _ hk => hk.1), hr, ha, h.ne, h.bB, h.lB, h.nx, fun k hk => Nat.lt_of_lt_of_le (h.xlt k hk) hs.size, by rw [hS]; exact h.hS, by rw [hC]; exact h.hC, hok⟩
set_option maxRecDepth 100000 in
theorem rstart_calls (w : World) (r : Rl) (D : Dk) (h : RefAt w r D) :
    Calls Try.prog 60 #[.pointer (some ⟨r.b, 0, none⟩)] w fun e w' => e = .returned (.int .i64 (startE D)) ∧ RefAt w' r (startD D) ∧ Save r.Off w w' := by
  obtain ⟨L, c, sa, sc, h⟩ := h
  obtain ⟨_, c1, _, _, ff⟩ := h.cells
  have HH := Lib.hid h
  clear h
  by_cases hu : D.up = true
  · rw [hu] at c1
    rw [show startE D = 2 by rw [startE, if_pos hu], show startD D = D by rw [startD, ← hu]]
    go_enter Try.func60, Try.ntmps60
    go_wp2_with fail
    go_ret
    exact ⟨rfl, ⟨L, c, sa, sc, HH.out⟩, Save.refl _ _⟩
  · have hu : D.up = false := by simpa using hu
    rw [hu] at c1
    rw [show startE D = 0 by rw [startE, if_neg (by rw [hu]; simp)]]
    go_enter Try.func60, Try.ntmps60
    go_wp2_with fail
    go_ret
    exact ⟨rfl, ⟨L, c, sa, sc, HH.out.turn Save.set rfl rfl (HH.out.ok.same rfl rfl HH.out.ok.left HH.out.ok.stay) (setCell_in _ HH.out.box) (HH.out.srow.save Save.set (fun g hg => (HH.out.sin g hg).2.1.1.1)) (HH.out.sin.mono (by simp [World.setCell]))⟩, Save.set.less (fun _ _ hk => hk.1)⟩
set_option maxRecDepth 100000 in
theorem rarm_calls (w : World) (r : Rl) (D : Dk) (h : RefAt w r D) (at_ : Int) (h9 : at_ ≤ 9223372036854775807) (a : Option Addr) (l : List UInt8) (c9 : Nat) (hr : Row w a l c9) (hl : l.length ≤ 100000000) (hin : l ≠ [] → ∀ g, Go.Cit.blk a = some g → g ≠ r.b) :
    Calls Try.prog 59 #[.pointer (some ⟨r.b, 0, none⟩), .int .i64 at_, .slice a l.length c9] w fun e w' => e = .returned (.int .i64 (armE D at_)) ∧ RefAt w' r (armD D at_ l) ∧ Save r.Off w w' := by
  obtain ⟨L, c, sa, sc, h⟩ := h
  obtain ⟨_, c1, c2, c3, ff⟩ := h.cells
  have HH := Lib.hid h
  have hlt : r.b < w.heap.size := (Array.getElem?_eq_some_iff.1 h.box).1
  clear h
  by_cases hu : D.up = true
  · rw [hu] at c1
    by_cases hat : at_ < 1
    · rw [show armE D at_ = 2 by rw [armE, if_neg (by rw [hu]; simp), if_pos hat], show armD D at_ l = D by rw [armD, if_pos (.inr hat)]]
      go_enter Try.func59, Try.ntmps59
      go_wp2_with fail
      go_ret
      exact ⟨rfl, ⟨L, c, sa, sc, HH.out⟩, Save.refl _ _⟩
    · rw [show armE D at_ = 0 by rw [armE, if_neg (by rw [hu]; simp), if_neg hat], show armD D at_ l = { D with left := at_.toNat, stay := l } by rw [armD, if_neg (by rw [hu]; simpa using hat)]]
      obtain ⟨n, rfl⟩ : ∃ n : Nat, at_ = (n : Int) := ⟨at_.toNat, by omega⟩
      rw [Int.toNat_natCast]
      obtain ⟨w1, hw1⟩ : ∃ w1, w1 = w.setCell ⟨r.b, 2, none⟩ (.int .i64 (n : Int)) := ⟨_, rfl⟩
      have hs1 : Save (· ≠ r.b) w w1 := by rw [hw1]; exact Save.set
      have hb1 : w1.heap[r.b]? = some (.cells (rdCells r { D with left := n } L.length c sa sc) 89 (0, 0)) := by rw [hw1]; exact setCell_in _ HH.out.box
      have HI1 : Hid (RefIn w1 r { D with left := n } L c sa sc) := HH.out.turn hs1 rfl rfl (HH.out.ok.same rfl rfl (by show n ≤ _; omega) HH.out.ok.stay) hb1 (HH.out.srow.save hs1 (fun g hg => (HH.out.sin g hg).2.1.1.1)) (HH.out.sin.mono hs1.size)
      have hc := copy_calls w1 a l c9 (hr.save' hs1 hin) (by omega)
      have HS1 := Lib.hid hs1
      have hsz : w.heap.size ≤ w1.heap.size := hs1.size
      clear hs1 hb1 hr
      go_enter Try.func59, Try.ntmps59
      go_wp2_with fail
      rw [← hw1]
      clear hw1
      refine (hc).mono ?_
      rintro e w3 ⟨a3, c3', rfl, hO, hb⟩
      have H3 := Lib.hid (HI1.out.stay hb)
      have HO := Lib.hid hO
      have HB := Lib.hid hb
      obtain ⟨_, _, d2, d3, ff⟩ := H3.out.cells
      clear hO hb hc
      go_wp2_with fail
      go_ret
      have hin3 : r.In (w3.setCell ⟨r.b, 3, none⟩ (.slice a3 l.length c3')).heap.size a3 := fun g hg => by
        have := (HO.out.blk_ge hg).1
        have h9 := (HO.out.blk_ge hg).2
        have h1 := HH.out.bB
        have h2 := (Array.getElem?_eq_some_iff.1 HH.out.held.blk.choose_spec).1
        exact ⟨by omega, ⟨⟨by omega, by omega⟩, fun hx => by have := HH.out.xlt g hx; omega⟩, by simpa [World.setCell] using h9⟩
      have hs : Save (· ≠ r.b) w3 (w3.setCell ⟨r.b, 3, none⟩ (.slice a3 l.length c3')) := Save.set
      refine ⟨rfl, ⟨L, c, a3, c3', H3.out.turn hs rfl rfl (HH.out.ok.same rfl rfl (by show n ≤ _; omega) (by show l.length ≤ _; omega)) (setCell_in _ H3.out.box) (HO.out.isRow.save hs (fun g hg => (hin3 g hg).2.1.1.1)) hin3⟩, ?_⟩
      exact ((HS1.out.less (fun _ _ hk => hk.1)).trans (Save.of HB.out)).trans (hs.less (fun _ _ hk => hk.1))
  · have hu : D.up = false := by simpa using hu
    rw [hu] at c1
    rw [show armE D at_ = 60 by rw [armE, if_pos hu], show armD D at_ l = D by rw [armD, if_pos (.inl hu)]]
    go_enter Try.func59, Try.ntmps59
    go_wp2_with fail
    go_ret
    exact ⟨rfl, ⟨L, c, sa, sc, HH.out⟩, Save.refl _ _⟩
end Go.Proofs.Ytofagofpeedfcaa
