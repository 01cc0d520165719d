/- Texts of the proof, one behind the other: Chan, Find, Sched, Part. No condition but those that each names. -/
import Derived.Test.YtlholdllibghbaaGreatG08
import Derived.Test.YtlholdllibghbaaGreatG07
import Derived.Lib.SliceRun
import Derived.WalkSpells
import Derived.Shelf.Abstract
/- channel.part, May, All; the reference's in, May, All: walked. -/
namespace Go.Proofs.YtlholdllibghbaaGreat
open Go Go.RowKit Go.Cit

def partB (n : Int) : Bool := decide (1 ≤ n ∧ n ≤ 6)
theorem part_calls (w : World) (n : Int) : Calls Tryz.prog 230 #[.int .i64 n] w fun e w' => e = .returned (.bool (partB n)) ∧ w' = w := by
  obtain ⟨R, HR⟩ : ∃ R, Hid (R = partB n) := ⟨_, rfl⟩
  rw [← HR.out]
  go_enter Tryz.func230, Tryz.ntmps230
  go_wp2_with fail
  all_goals
    go_ret
    refine ⟨ret_bool ?_, rfl⟩
    rw [HR.out, partB]
    first | (refine (decide_eq_false ?_).symm; omega) | (refine (decide_eq_true ?_).symm; omega) | (refine decide_eq_decide.2 ?_; omega) | (rw [Bool.eq_iff_iff]; simp only [Bool.and_eq_true, bne_iff_ne, ne_eq, decide_eq_true_eq]; omega)
def mayC (c : Ch) : Bool := decide (1 ≤ c.id.1 ∧ c.id.1 ≤ 8 ∧ 1 ≤ c.src.1 ∧ c.src.1 ≤ 6 ∧ 1 ≤ c.dst.1 ∧ c.dst.1 ≤ 6 ∧ c.src.1 ≠ c.dst.1 ∧ 1 ≤ c.cap.1 ∧ c.cap.1 ≤ 4 ∧ 1 ≤ c.size.1 ∧ c.size.1 ≤ 16)
set_option maxRecDepth 100000 in
set_option maxHeartbeats 1000000 in
theorem chmay_calls (w : World) (c : Ch) : Calls Tryz.prog 182 #[.agg #[.int .i64 c.id.1, .int .i64 c.src.1, .int .i64 c.dst.1, .int .i64 c.cap.1, .int .i64 c.size.1]] w fun e w' => e = .returned (.bool (mayC c)) ∧ Below w.heap.size w w' := by
  obtain ⟨R, HR⟩ : ∃ R, Hid (R = mayC c) := ⟨_, rfl⟩
  rw [← HR.out]
  obtain ⟨⟨x1, _⟩, ⟨x2, _⟩, ⟨x3, _⟩, ⟨x4, _⟩, ⟨x5, _⟩⟩ := c
  have B : Hid (∀ C, Below w.heap.size w (w.alloc (.cells C 48))) := fun C => (Below.refl _ w).alloc (Nat.le_refl _) _
  go_enter Tryz.func182, Tryz.ntmps182
  go_wp2_with (go_at_call 230; refine (part_calls _ _).mono ?_; rintro e w' ⟨rfl, rfl⟩)
  all_goals
    go_ret
    refine ⟨ret_bool ?_, B.out _⟩
    rw [HR.out, mayC]
    simp only [partB, decide_eq_true_eq, decide_eq_false_iff_not] at *
    first | (refine (decide_eq_false ?_).symm; omega) | (refine (decide_eq_true ?_).symm; omega) | (refine decide_eq_decide.2 ?_; omega) | (rw [Bool.eq_iff_iff]; simp only [Bool.and_eq_true, bne_iff_ne, ne_eq, decide_eq_true_eq]; omega)
theorem chs_cells {w w' : World} {a : Option Addr} {l : List Ch} {c : Nat} (h : Vec cCh 5 w a l c) (hb : Below w.heap.size w w') (k : Nat) (hk : k < l.length) :
    w'.cell? (ad a (k * 5)) = some (.int .i64 l[k].id.1) ∧ w'.cell? ⟨(ad a (k * 5)).block, (ad a (k * 5)).off + 1, none⟩ = some (.int .i64 l[k].src.1) ∧ w'.cell? ⟨(ad a (k * 5)).block, (ad a (k * 5)).off + 2, none⟩ = some (.int .i64 l[k].dst.1) ∧
    w'.cell? ⟨(ad a (k * 5)).block, (ad a (k * 5)).off + 3, none⟩ = some (.int .i64 l[k].cap.1) ∧ w'.cell? ⟨(ad a (k * 5)).block, (ad a (k * 5)).off + 4, none⟩ = some (.int .i64 l[k].size.1) := by
  have h := h.stay cCh_len hb
  exact ⟨h.field0 k hk (by decide) rfl, h.field k hk 1 (by decide) rfl, h.field k hk 2 (by decide) rfl, h.field k hk 3 (by decide) rfl, h.field k hk 4 (by decide) rfl⟩

def idAt (l : List Ch) (i : Nat) : Int := (l[i]?.map (·.id.1)).getD 0
def ascTo (l : List Ch) (k : Nat) : Bool := (List.range k).all fun i => decide (idAt l i < idAt l (i + 1))
theorem ascTo_succ (l : List Ch) (k : Nat) : ascTo l (k + 1) = (ascTo l k && decide (idAt l k < idAt l (k + 1))) := by
  unfold ascTo; rw [List.range_succ, List.all_append]; simp
theorem ascTo_mono (l : List Ch) (k n : Nat) (h : k ≤ n) (hk : ascTo l k = false) : ascTo l n = false := by
  obtain ⟨d, rfl⟩ : ∃ d, n = k + d := ⟨n - k, by omega⟩
  induction d with
  | zero => exact hk
  | succ d ih => rw [← Nat.add_assoc, ascTo_succ, ih (by omega), Bool.false_and]
def chErr (l : List Ch) : Int := if l.all mayC then (if ascTo l (l.length - 1) then 0 else 100) else 2
theorem all_take {α : Type} (p : α → Bool) (l : List α) (k : Nat) (h : k < l.length) : (l.take (k + 1)).all p = ((l.take k).all p && p l[k]) := by
  rw [List.take_succ_eq_append_getElem h, List.all_append]; simp
theorem all_not {α : Type} (p : α → Bool) (l : List α) (k : Nat) (h : k < l.length) (hp : p l[k] = false) : l.all p = false := by
  rw [List.all_eq_false]; exact ⟨l[k], List.getElem_mem h, by simp [hp]⟩

set_option maxRecDepth 100000 in
set_option maxHeartbeats 2000000 in
theorem chall_calls (w : World) (a : Option Addr) (l : List Ch) (c : Nat) (h : Vec cCh 5 w a l c) : Calls Tryz.prog 252 #[.slice a l.length c] w fun e w' => e = .returned (.int .i64 (chErr l)) ∧ Below w.heap.size w w' := by
  obtain ⟨R, HR⟩ : ∃ R, Hid (R = chErr l) := ⟨_, rfl⟩
  rw [← HR.out]
  have hlen := h.len_le
  have HH := Lib.hid h
  clear h
  go_enter Tryz.func252, Tryz.ntmps252
  go_wp2_with fail
  go_loopw [8] (fun i wr => ∃ (k : Nat), Hid ((l.take k).all mayC = true) ∧ k ≤ l.length ∧ i = .int .i64 k ∧ Below w.heap.size w wr) (fun i _ => l.length - (intOf i).toNat)
  case atStart => exact ⟨0, rfl, by omega, rfl, Below.refl _ _⟩
  case round =>
    obtain ⟨k, ha, hk, rfl, B⟩ := hrel
    by_cases hlt : k < l.length
    · have i0 := HH.out.index etC k hlt
      obtain ⟨d0, d1, d2, d3, d4⟩ := chs_cells HH.out B k hlt
      cases hq : mayC l[k] with
      | true =>
        have HA : Hid ((l.take (k + 1)).all mayC = true) := by rw [Hid, all_take _ _ _ hlt, ha.out, hq]; rfl
        have HC := Lib.hid (fun w => chmay_calls w l[k])
        rw [hq] at HC
        have HB := Lib.hid B
        clear hq B
        go_wp2_with (go_at_call 182; refine (HC.out _).mono ?_; rintro e w2 ⟨rfl, hb2⟩)
        go_roundw
        case rel => exact ⟨k + 1, HA.out, by omega, by go_num, HB.out.trans (((Below.refl _ wr).alloc (Nat.le_refl _) _).trans (hb2.mono (by simp)) |>.mono HB.out.size)⟩
        case measure => simp [intOf]; omega
      | false =>
        have HC := Lib.hid (fun w => chmay_calls w l[k])
        rw [hq] at HC
        have HF : Hid (R = 2) := by rw [Hid, HR.out, chErr, all_not _ _ _ hlt hq]; rfl
        have HB := Lib.hid B
        clear hq B
        go_wp2_with (go_at_call 182; refine (HC.out _).mono ?_; rintro e w2 ⟨rfl, hb2⟩)
        go_ret
        exact ⟨ret_int HF.out.symm, HB.out.trans (((Below.refl _ wr).alloc (Nat.le_refl _) _).trans (hb2.mono (by simp)) |>.mono HB.out.size)⟩
    · have hk2 : k = l.length := by omega
      have HA : Hid (l.all mayC = true) := by have := ha.out; rw [hk2, List.take_length] at this; exact this
      have hnl : ¬ (k : Int) < (l.length : Int) := by omega
      clear ha hk2
      go_wp2_with fail
      go_loopw [5] (fun i wx => ∃ (m : Nat), Hid (ascTo l m = true) ∧ (m + 1 ≤ l.length ∨ m = 0) ∧ i = .int .i64 ((m : Int) + 1) ∧ Below w.heap.size w wx) (fun i _ => l.length - (intOf i).toNat)
      case atStart => exact ⟨0, rfl, .inr rfl, rfl, B⟩
      case round =>
        obtain ⟨m, hm, hml, rfl, B2⟩ := hrel
        by_cases hlt2 : m + 1 < l.length
        · have i0 := HH.out.index etC m (by omega)
          have i1 := HH.out.index etC (m + 1) hlt2
          rw [show ((m + 1 : Nat) : Int) = (m : Int) + 1 from rfl] at i1
          have c0 : ∀ q : After wr, q.to.cell? (ad a (m * 5)) = some (.int .i64 l[m].id.1) := fun q => (chs_cells HH.out (B2.trans (q.bel.mono B2.size)) m (by omega)).1
          have c1 : ∀ q : After wr, q.to.cell? (ad a ((m + 1) * 5)) = some (.int .i64 l[m + 1].id.1) := fun q => (chs_cells HH.out (B2.trans (q.bel.mono B2.size)) (m + 1) hlt2).1
          have hwm : IntKind.i64.wrap (m : Int) = (m : Int) := IntWalk.i64_in _ (by omega)
          have HI : Hid (idAt l m = l[m].id.1 ∧ idAt l (m + 1) = l[m + 1].id.1) := by
            constructor
            · simp [idAt, show m < l.length by omega]
            · simp [idAt, hlt2]
          by_cases hc : l[m].id.1 < l[m + 1].id.1
          · have HS : Hid (ascTo l (m + 1) = true) := by rw [Hid, ascTo_succ, hm.out, HI.out.1, HI.out.2, decide_eq_true hc]; rfl
            have hlti : (m : Int) + 1 < (l.length : Int) := by omega
            go_wp2_with fail
            refine wp_region_after (by kernel_rfl) (by kernel_rfl) ?_
            iterate 12
              refine wq_step (fun K hK => ?_)
              go_simp
              refine hK _ ?_
              clear hK K
            refine wq_nil ?_
            intro _ hw'
            obtain ⟨⟨w3, hb3⟩, hw'⟩ := hw'
            subst hw'
            go_wp2_with fail
            go_roundw
            case rel => exact ⟨m + 1, HS.out, by omega, by go_num, B2.trans (hb3.mono B2.size)⟩
            case measure => simp [intOf]; omega
          · have HS : Hid (ascTo l (m + 1) = false) := by rw [Hid, ascTo_succ, hm.out, HI.out.1, HI.out.2, decide_eq_false hc]; rfl
            have HF : Hid (R = 100) := by rw [Hid, HR.out, chErr, HA.out, ascTo_mono l (m + 1) _ (by omega) HS.out]; rfl
            have hlti : (m : Int) + 1 < (l.length : Int) := by omega
            go_wp2_with fail
            refine wp_region_after (by kernel_rfl) (by kernel_rfl) ?_
            iterate 12
              refine wq_step (fun K hK => ?_)
              go_simp
              refine hK _ ?_
              clear hK K
            refine wq_nil ?_
            intro _ hw'
            obtain ⟨⟨w3, hb3⟩, hw'⟩ := hw'
            subst hw'
            go_wp2_with fail
            go_ret
            exact ⟨ret_int HF.out.symm, B2.trans (hb3.mono B2.size)⟩
        · have HF : Hid (R = 0) := by
            rw [Hid, HR.out, chErr, HA.out, if_pos rfl]
            rcases hml with h1 | h1
            · rw [show l.length - 1 = m by omega, hm.out]; rfl
            · subst h1; rw [show l.length - 1 = 0 by omega]; rfl
          have hlti : ¬ (m : Int) + 1 < (l.length : Int) := by omega
          go_wp2_with fail
          go_ret
          exact ⟨ret_int HF.out.symm, B2⟩
end Go.Proofs.YtlholdllibghbaaGreat

/- slices.IndexFunc, slices.ContainsFunc at windows, partitions, channels: walked (printed by genfind.py). -/
namespace Go.Proofs.YtlholdllibghbaaGreat
open Go Go.RowKit Go.Cit

def findI {α : Type} (p : α → Bool) (l : List α) : Int := match l.findIdx? p with | some i => (i : Int) | none => -1
theorem findI_hit {α : Type} (p : α → Bool) (l : List α) (k : Nat) (h : k < l.length) (hn : ∀ j (hj : j < l.length), j < k → p l[j] = false) (hp : p l[k] = true) : findI p l = k := by
  have : l.findIdx? p = some k := by
    rw [List.findIdx?_eq_some_iff_getElem]
    exact ⟨h, hp, fun j hj => by rw [hn j (by omega) hj]; decide⟩
  rw [findI, this]
theorem findI_none {α : Type} (p : α → Bool) (l : List α) (hn : ∀ j (hj : j < l.length), p l[j] = false) : findI p l = -1 := by
  have : l.findIdx? p = none := by
    rw [List.findIdx?_eq_none_iff]
    intro x hx
    obtain ⟨i, hi, rfl⟩ := List.mem_iff_getElem.1 hx
    exact hn i hi
  rw [findI, this]
theorem findI_any {α : Type} (p : α → Bool) (l : List α) : decide (0 ≤ findI p l) = l.any p := by
  cases h : l.findIdx? p with
  | none =>
    simp only [findI, h]
    rw [List.findIdx?_eq_none_iff] at h
    have : l.any p = false := by rw [List.any_eq_false]; intro x hx; rw [h x hx]; decide
    rw [this]; rfl
  | some i =>
    rw [findI, h]
    rw [List.findIdx?_eq_some_iff_getElem] at h
    obtain ⟨hi, hp, _⟩ := h
    have : l.any p = true := List.any_eq_true.2 ⟨l[i], List.getElem_mem hi, hp⟩
    rw [this]; simp
theorem findI_range {α : Type} (p : α → Bool) (l : List α) : findI p l = -1 ∨ ∃ i, ∃ h : i < l.length, findI p l = i ∧ p l[i] = true := by
  cases h : l.findIdx? p with
  | none => left; rw [findI, h]
  | some i =>
    right
    rw [findI, h]
    rw [List.findIdx?_eq_some_iff_getElem] at h
    obtain ⟨hi, hp, _⟩ := h
    exact ⟨i, hi, rfl, hp⟩
theorem win_cells {w w' : World} {a : Option Addr} {l : List Win} {c : Nat} (h : Vec cWin 2 w a l c) (hb : Below w.heap.size w w') (k : Nat) (hk : k < l.length) :
    w'.cell? (ad a (k * 2)) = some (.int .i64 l[k].len.1) ∧ w'.cell? ⟨(ad a (k * 2)).block, (ad a (k * 2)).off + 1, none⟩ = some (.int .i64 l[k].part.1) := by
  have h := h.stay cWin_len hb
  exact ⟨h.field0 k hk (by decide) rfl, h.field k hk 1 (by decide) rfl⟩

set_option maxRecDepth 100000 in
set_option maxHeartbeats 1000000 in
theorem win_index {p : Win → Bool} (g : Nat) (lb : Array Value) (eg : ∀ args w, (callFunc g args).run Tryz.prog w = .ok (.enter g args) w) (w : World) (a : Option Addr) (l : List Win) (c : Nat) (h : Vec cWin 2 w a l c) (hp : ∀ (W : World) (i : Nat) (hi : i < l.length), Below w.heap.size w W → Calls Tryz.prog g (#[.agg #[.int .i64 l[i].len.1, .int .i64 l[i].part.1]] ++ lb) W fun e w' => e = .returned (.bool (p l[i])) ∧ Below w.heap.size w w') :
    Calls Tryz.prog 257 #[.slice a l.length c, .func (.func g) #[] lb] w fun e w' => e = .returned (.int .i64 (findI p l)) ∧ Below w.heap.size w w' := by
  obtain ⟨R, HR⟩ : ∃ R, Hid (R = findI p l) := ⟨_, rfl⟩
  rw [← HR.out]
  have hlen := h.len_le
  have HH := Lib.hid h
  have HP := Lib.hid hp
  clear h hp
  go_enter Tryz.func257, Tryz.ntmps257
  go_wp2_with fail
  go_loopw [8] (fun i wr => ∃ (k : Nat), Hid (∀ j (hj : j < l.length), j < k → p l[j] = false) ∧ k ≤ l.length ∧ i = .int .i64 k ∧ Below w.heap.size w wr) (fun i _ => l.length - (intOf i).toNat)
  case atStart => exact ⟨0, fun j hj h => by omega, by omega, rfl, Below.refl _ _⟩
  case round =>
    obtain ⟨k, ha, hk, rfl, B⟩ := hrel
    by_cases hlt : k < l.length
    · have i0 := HH.out.index etW k hlt
      obtain ⟨d0, d1⟩ := win_cells HH.out B k hlt
      have hcall := HP.out wr k hlt B
      cases hq : p l[k] with
      | true =>
        rw [hq] at hcall
        have HF : Hid (R = k) := by rw [Hid, HR.out, findI_hit p l k hlt ha.out hq]
        clear hq
        go_wp2_with fail
        refine (hcall).mono ?_
        rintro e w2 ⟨rfl, hb2⟩
        go_wp2_with fail
        go_ret
        exact ⟨ret_int HF.out.symm, hb2⟩
      | false =>
        rw [hq] at hcall
        have HN : Hid (∀ j (hj : j < l.length), j < k + 1 → p l[j] = false) := fun j hj h => by
          rcases Nat.lt_or_ge j k with h1 | h1
          · exact ha.out j hj h1
          · obtain rfl : j = k := by omega
            exact hq
        clear hq
        go_wp2_with fail
        refine (hcall).mono ?_
        rintro e w2 ⟨rfl, hb2⟩
        go_wp2_with fail
        go_roundw
        case rel => exact ⟨k + 1, HN.out, by omega, by go_num, hb2⟩
        case measure => simp [intOf]; omega
    · have HF : Hid (R = -1) := by rw [Hid, HR.out, findI_none p l (fun j hj => ha.out j hj (by omega))]
      go_wp2_with fail
      go_ret
      exact ⟨ret_int HF.out.symm, B⟩
theorem win_contains {p : Win → Bool} (g : Nat) (lb : Array Value) (eg : ∀ args w, (callFunc g args).run Tryz.prog w = .ok (.enter g args) w) (w : World) (a : Option Addr) (l : List Win) (c : Nat) (h : Vec cWin 2 w a l c) (hp : ∀ (W : World) (i : Nat) (hi : i < l.length), Below w.heap.size w W → Calls Tryz.prog g (#[.agg #[.int .i64 l[i].len.1, .int .i64 l[i].part.1]] ++ lb) W fun e w' => e = .returned (.bool (p l[i])) ∧ Below w.heap.size w w') :
    Calls Tryz.prog 247 #[.slice a l.length c, .func (.func g) #[] lb] w fun e w' => e = .returned (.bool (l.any p)) ∧ Below w.heap.size w w' := by
  have HC := Lib.hid (win_index g lb eg w a l c h hp)
  obtain ⟨R, HR⟩ : ∃ R, Hid (R = findI p l) := ⟨_, rfl⟩
  obtain ⟨S, HS⟩ : ∃ S, Hid (S = l.any p) := ⟨_, rfl⟩
  rw [← HR.out] at HC
  rw [← HS.out]
  clear h hp
  go_enter Tryz.func247, Tryz.ntmps247
  go_wp2_with fail
  refine (HC.out).mono ?_
  rintro e w2 ⟨rfl, hb2⟩
  go_wp2_with fail
  go_ret
  exact ⟨ret_bool (by rw [HS.out, ← findI_any p l, ← HR.out]), hb2⟩
theorem pts_cells {w w' : World} {a : Option Addr} {l : List PtV} {c : Nat} (h : Vec cPt 5 w a l c) (hb : Below w.heap.size w w') (k : Nat) (hk : k < l.length) :
    w'.cell? (ad a (k * 5)) = some (.int .i64 l[k].id.1) ∧ w'.cell? ⟨(ad a (k * 5)).block, (ad a (k * 5)).off + 1, none⟩ = some (.int .i64 l[k].reg.base.1) ∧ w'.cell? ⟨(ad a (k * 5)).block, (ad a (k * 5)).off + 2, none⟩ = some (.int .i64 l[k].reg.size.1) ∧ w'.cell? ⟨(ad a (k * 5)).block, (ad a (k * 5)).off + 3, none⟩ = some (.bool l[k].keep) ∧ w'.cell? ⟨(ad a (k * 5)).block, (ad a (k * 5)).off + 4, none⟩ = some (.slice l[k].a l[k].img.length l[k].c) := by
  have h := h.stay cPt_len hb
  exact ⟨h.field0 k hk (by decide) rfl, h.field k hk 1 (by decide) rfl, h.field k hk 2 (by decide) rfl, h.field k hk 3 (by decide) rfl, h.field k hk 4 (by decide) rfl⟩

set_option maxRecDepth 100000 in
set_option maxHeartbeats 1000000 in
theorem pts_index {p : PtV → Bool} (g : Nat) (lb : Array Value) (eg : ∀ args w, (callFunc g args).run Tryz.prog w = .ok (.enter g args) w) (w : World) (a : Option Addr) (l : List PtV) (c : Nat) (h : Vec cPt 5 w a l c) (hp : ∀ (W : World) (i : Nat) (hi : i < l.length), Below w.heap.size w W → Calls Tryz.prog g (#[.agg #[.int .i64 l[i].id.1, .int .i64 l[i].reg.base.1, .int .i64 l[i].reg.size.1, .bool l[i].keep, .slice l[i].a l[i].img.length l[i].c]] ++ lb) W fun e w' => e = .returned (.bool (p l[i])) ∧ Below w.heap.size w w') :
    Calls Tryz.prog 191 #[.slice a l.length c, .func (.func g) #[] lb] w fun e w' => e = .returned (.int .i64 (findI p l)) ∧ Below w.heap.size w w' := by
  obtain ⟨R, HR⟩ : ∃ R, Hid (R = findI p l) := ⟨_, rfl⟩
  rw [← HR.out]
  have hlen := h.len_le
  have HH := Lib.hid h
  have HP := Lib.hid hp
  clear h hp
  go_enter Tryz.func191, Tryz.ntmps191
  go_wp2_with fail
  go_loopw [8] (fun i wr => ∃ (k : Nat), Hid (∀ j (hj : j < l.length), j < k → p l[j] = false) ∧ k ≤ l.length ∧ i = .int .i64 k ∧ Below w.heap.size w wr) (fun i _ => l.length - (intOf i).toNat)
  case atStart => exact ⟨0, fun j hj h => by omega, by omega, rfl, Below.refl _ _⟩
  case round =>
    obtain ⟨k, ha, hk, rfl, B⟩ := hrel
    by_cases hlt : k < l.length
    · have i0 := HH.out.index etP k hlt
      obtain ⟨d0, d1, d2, d3, d4⟩ := pts_cells HH.out B k hlt
      have hcall := HP.out wr k hlt B
      cases hq : p l[k] with
      | true =>
        rw [hq] at hcall
        have HF : Hid (R = k) := by rw [Hid, HR.out, findI_hit p l k hlt ha.out hq]
        clear hq
        go_wp2_with fail
        refine (hcall).mono ?_
        rintro e w2 ⟨rfl, hb2⟩
        go_wp2_with fail
        go_ret
        exact ⟨ret_int HF.out.symm, hb2⟩
      | false =>
        rw [hq] at hcall
        have HN : Hid (∀ j (hj : j < l.length), j < k + 1 → p l[j] = false) := fun j hj h => by
          rcases Nat.lt_or_ge j k with h1 | h1
          · exact ha.out j hj h1
          · obtain rfl : j = k := by omega
            exact hq
        clear hq
        go_wp2_with fail
        refine (hcall).mono ?_
        rintro e w2 ⟨rfl, hb2⟩
        go_wp2_with fail
        go_roundw
        case rel => exact ⟨k + 1, HN.out, by omega, by go_num, hb2⟩
        case measure => simp [intOf]; omega
    · have HF : Hid (R = -1) := by rw [Hid, HR.out, findI_none p l (fun j hj => ha.out j hj (by omega))]
      go_wp2_with fail
      go_ret
      exact ⟨ret_int HF.out.symm, B⟩
theorem pts_contains {p : PtV → Bool} (g : Nat) (lb : Array Value) (eg : ∀ args w, (callFunc g args).run Tryz.prog w = .ok (.enter g args) w) (w : World) (a : Option Addr) (l : List PtV) (c : Nat) (h : Vec cPt 5 w a l c) (hp : ∀ (W : World) (i : Nat) (hi : i < l.length), Below w.heap.size w W → Calls Tryz.prog g (#[.agg #[.int .i64 l[i].id.1, .int .i64 l[i].reg.base.1, .int .i64 l[i].reg.size.1, .bool l[i].keep, .slice l[i].a l[i].img.length l[i].c]] ++ lb) W fun e w' => e = .returned (.bool (p l[i])) ∧ Below w.heap.size w w') :
    Calls Tryz.prog 112 #[.slice a l.length c, .func (.func g) #[] lb] w fun e w' => e = .returned (.bool (l.any p)) ∧ Below w.heap.size w w' := by
  have HC := Lib.hid (pts_index g lb eg w a l c h hp)
  obtain ⟨R, HR⟩ : ∃ R, Hid (R = findI p l) := ⟨_, rfl⟩
  obtain ⟨S, HS⟩ : ∃ S, Hid (S = l.any p) := ⟨_, rfl⟩
  rw [← HR.out] at HC
  rw [← HS.out]
  clear h hp
  go_enter Tryz.func112, Tryz.ntmps112
  go_wp2_with fail
  refine (HC.out).mono ?_
  rintro e w2 ⟨rfl, hb2⟩
  go_wp2_with fail
  go_ret
  exact ⟨ret_bool (by rw [HS.out, ← findI_any p l, ← HR.out]), hb2⟩

set_option maxRecDepth 100000 in
set_option maxHeartbeats 1000000 in
theorem chs_index {p : Ch → Bool} (g : Nat) (lb : Array Value) (eg : ∀ args w, (callFunc g args).run Tryz.prog w = .ok (.enter g args) w) (w : World) (a : Option Addr) (l : List Ch) (c : Nat) (h : Vec cCh 5 w a l c) (hp : ∀ (W : World) (i : Nat) (hi : i < l.length), Below w.heap.size w W → Calls Tryz.prog g (#[.agg #[.int .i64 l[i].id.1, .int .i64 l[i].src.1, .int .i64 l[i].dst.1, .int .i64 l[i].cap.1, .int .i64 l[i].size.1]] ++ lb) W fun e w' => e = .returned (.bool (p l[i])) ∧ Below w.heap.size w w') :
    Calls Tryz.prog 260 #[.slice a l.length c, .func (.func g) #[] lb] w fun e w' => e = .returned (.int .i64 (findI p l)) ∧ Below w.heap.size w w' := by
  obtain ⟨R, HR⟩ : ∃ R, Hid (R = findI p l) := ⟨_, rfl⟩
  rw [← HR.out]
  have hlen := h.len_le
  have HH := Lib.hid h
  have HP := Lib.hid hp
  clear h hp
  go_enter Tryz.func260, Tryz.ntmps260
  go_wp2_with fail
  go_loopw [8] (fun i wr => ∃ (k : Nat), Hid (∀ j (hj : j < l.length), j < k → p l[j] = false) ∧ k ≤ l.length ∧ i = .int .i64 k ∧ Below w.heap.size w wr) (fun i _ => l.length - (intOf i).toNat)
  case atStart => exact ⟨0, fun j hj h => by omega, by omega, rfl, Below.refl _ _⟩
  case round =>
    obtain ⟨k, ha, hk, rfl, B⟩ := hrel
    by_cases hlt : k < l.length
    · have i0 := HH.out.index etC k hlt
      obtain ⟨d0, d1, d2, d3, d4⟩ := chs_cells HH.out B k hlt
      have hcall := HP.out wr k hlt B
      cases hq : p l[k] with
      | true =>
        rw [hq] at hcall
        have HF : Hid (R = k) := by rw [Hid, HR.out, findI_hit p l k hlt ha.out hq]
        clear hq
        go_wp2_with fail
        refine (hcall).mono ?_
        rintro e w2 ⟨rfl, hb2⟩
        go_wp2_with fail
        go_ret
        exact ⟨ret_int HF.out.symm, hb2⟩
      | false =>
        rw [hq] at hcall
        have HN : Hid (∀ j (hj : j < l.length), j < k + 1 → p l[j] = false) := fun j hj h => by
          rcases Nat.lt_or_ge j k with h1 | h1
          · exact ha.out j hj h1
          · obtain rfl : j = k := by omega
            exact hq
        clear hq
        go_wp2_with fail
        refine (hcall).mono ?_
        rintro e w2 ⟨rfl, hb2⟩
        go_wp2_with fail
        go_roundw
        case rel => exact ⟨k + 1, HN.out, by omega, by go_num, hb2⟩
        case measure => simp [intOf]; omega
    · have HF : Hid (R = -1) := by rw [Hid, HR.out, findI_none p l (fun j hj => ha.out j hj (by omega))]
      go_wp2_with fail
      go_ret
      exact ⟨ret_int HF.out.symm, B⟩
theorem chs_contains {p : Ch → Bool} (g : Nat) (lb : Array Value) (eg : ∀ args w, (callFunc g args).run Tryz.prog w = .ok (.enter g args) w) (w : World) (a : Option Addr) (l : List Ch) (c : Nat) (h : Vec cCh 5 w a l c) (hp : ∀ (W : World) (i : Nat) (hi : i < l.length), Below w.heap.size w W → Calls Tryz.prog g (#[.agg #[.int .i64 l[i].id.1, .int .i64 l[i].src.1, .int .i64 l[i].dst.1, .int .i64 l[i].cap.1, .int .i64 l[i].size.1]] ++ lb) W fun e w' => e = .returned (.bool (p l[i])) ∧ Below w.heap.size w w') :
    Calls Tryz.prog 253 #[.slice a l.length c, .func (.func g) #[] lb] w fun e w' => e = .returned (.bool (l.any p)) ∧ Below w.heap.size w w' := by
  have HC := Lib.hid (chs_index g lb eg w a l c h hp)
  obtain ⟨R, HR⟩ : ∃ R, Hid (R = findI p l) := ⟨_, rfl⟩
  obtain ⟨S, HS⟩ : ∃ S, Hid (S = l.any p) := ⟨_, rfl⟩
  rw [← HR.out] at HC
  rw [← HS.out]
  clear h hp
  go_enter Tryz.func253, Tryz.ntmps253
  go_wp2_with fail
  refine (HC.out).mono ?_
  rintro e w2 ⟨rfl, hb2⟩
  go_wp2_with fail
  go_ret
  exact ⟨ret_bool (by rw [HS.out, ← findI_any p l, ← HR.out]), hb2⟩
end Go.Proofs.YtlholdllibghbaaGreat

/- schedule.May, the reference's May: walked. -/
namespace Go.Proofs.YtlholdllibghbaaGreat
open Go Go.RowKit Go.Cit

def winOk (x : Win) : Bool := decide (1 ≤ x.len.1 ∧ x.len.1 ≤ 64 ∧ 0 ≤ x.part.1 ∧ x.part.1 ≤ 6)
def sumL (l : List Win) : Int := (l.map (·.len.1)).sum
theorem sumL_take (l : List Win) (k : Nat) (h : k < l.length) : sumL (l.take (k + 1)) = sumL (l.take k) + l[k].len.1 := by
  rw [sumL, sumL, List.take_succ_eq_append_getElem h, List.map_append, List.sum_append]; simp
def mayW (l : List Win) : Bool := decide (1 ≤ l.length ∧ l.length ≤ 12) && (l.all winOk && decide (sumL l ≤ 64))
set_option maxRecDepth 100000 in
set_option maxHeartbeats 2000000 in
theorem smay_calls (w : World) (a : Option Addr) (l : List Win) (c : Nat) (h : Vec cWin 2 w a l c) : Calls Tryz.prog 246 #[.slice a l.length c] w fun e w' => e = .returned (.bool (mayW l)) ∧ Below w.heap.size w w' := by
  obtain ⟨R, HR⟩ : ∃ R, Hid (R = mayW l) := ⟨_, rfl⟩
  rw [← HR.out]
  have hlen := h.len_le
  have HH := Lib.hid h
  clear h
  by_cases h1 : l.length < 1
  · have HF : Hid (R = false) := by rw [Hid, HR.out, mayW, decide_eq_false (by omega)]; rfl
    go_enter Tryz.func246, Tryz.ntmps246
    go_wp2_with fail
    go_ret
    exact ⟨ret_bool HF.out.symm, Below.refl _ _⟩
  by_cases h2 : 12 < l.length
  · have HF : Hid (R = false) := by rw [Hid, HR.out, mayW, decide_eq_false (by omega)]; rfl
    go_enter Tryz.func246, Tryz.ntmps246
    go_wp2_with fail
    go_ret
    exact ⟨ret_bool HF.out.symm, Below.refl _ _⟩
  have HR : Hid (R = (l.all winOk && decide (sumL l ≤ 64))) := by rw [Hid, HR.out, mayW, decide_eq_true (by omega)]; rfl
  go_enter Tryz.func246, Tryz.ntmps246
  go_wp2_with fail
  go_loopw [3, 16] (fun s i wr => ∃ (k : Nat) (m : Int), Hid ((l.take k).all winOk = true) ∧ Hid (m = sumL (l.take k)) ∧ k ≤ l.length ∧ 0 ≤ m ∧ m ≤ 64 * k ∧ s = .int .i64 m ∧ i = .int .i64 k ∧ Below w.heap.size w wr) (fun _ i _ => l.length - (intOf i).toNat)
  case atStart => exact ⟨0, 0, rfl, rfl, by omega, by omega, by omega, rfl, rfl, Below.refl _ _⟩
  case round =>
    obtain ⟨k, m, ha, hm, hk, hm0, hm1, rfl, rfl, B⟩ := hrel
    by_cases hlt : k < l.length
    · have i0 := HH.out.index etW k hlt
      obtain ⟨d0, d1⟩ := win_cells HH.out B k hlt
      have HB : Hid (∀ C, Below w.heap.size w (wr.alloc (.cells C 77))) := fun C => B.alloc B.size _
      obtain ⟨x, hx⟩ : ∃ x, x = l[k].len.1 := ⟨_, rfl⟩
      obtain ⟨y, hy⟩ : ∃ y, y = l[k].part.1 := ⟨_, rfl⟩
      have HW : Hid (winOk l[k] = decide (1 ≤ x ∧ x ≤ 64 ∧ 0 ≤ y ∧ y ≤ 6)) := by rw [hx, hy]; rfl
      have HS : Hid (m + x = sumL (l.take (k + 1))) := by rw [Hid, sumL_take _ _ hlt, hm.out, hx]
      rw [← hx] at d0
      rw [← hy] at d1
      clear hx hy B
      by_cases hq : 1 ≤ x ∧ x ≤ 64 ∧ 0 ≤ y ∧ y ≤ 6
      · obtain ⟨q1, q2, q3, q4⟩ := hq
        have HA : Hid ((l.take (k + 1)).all winOk = true) := by rw [Hid, all_take _ _ _ hlt, ha.out, HW.out, decide_eq_true ⟨q1, q2, q3, q4⟩]; rfl
        go_wp2_with fail
        go_roundw
        case rel => exact ⟨k + 1, m + x, HA.out, HS.out, by omega, by omega, by omega, rfl, by go_num, HB.out _⟩
        case measure => simp [intOf]; omega
      · have HF : Hid (R = false) := by rw [Hid, HR.out, all_not _ _ _ hlt (by rw [HW.out, decide_eq_false hq])]; rfl
        have HQ := Lib.hid hq
        clear hq
        go_wp2_with fail
        all_goals first
          | (go_ret; exact ⟨ret_bool HF.out.symm, HB.out _⟩)
          | (exfalso; have := HQ.out; omega)
    · have hk2 : k = l.length := by omega
      have HA : Hid (l.all winOk = true) := by have := ha.out; rw [hk2, List.take_length] at this; exact this
      have HM : Hid (m = sumL l) := by rw [Hid, hm.out, hk2, List.take_length]
      have HK := Lib.hid hk2
      clear hk2
      go_wp2_with fail
      all_goals
        go_ret
        refine ⟨ret_bool ?_, B⟩
        rw [HR.out, HA.out, ← HM.out, Bool.true_and]
        try simp only [*]

end Go.Proofs.YtlholdllibghbaaGreat

/- slices.Clone of bytes; config.Part, valid.has, the reference's Part, has: walked. -/
namespace Go.Proofs.YtlholdllibghbaaGreat
open Go Go.RowKit Go.Cit

theorem btP : ByteTypes Tryz.prog 40 5 := ⟨Tryz.underlying40, fun w => by kernel_rfl, by kernel_rfl⟩

set_option maxRecDepth 100000 in
theorem sclone_calls (w : World) (a : Option Addr) (l : List UInt8) (c : Nat) (h : Row w a l c) (hl : l.length ≤ 1000000000) :
    Calls Tryz.prog 163 #[.slice a l.length c] w fun e w' => ∃ a' c', e = .returned (.slice a' l.length c') ∧ Cit.Own 5 w.heap.size w' a' l c' ∧ Below w.heap.size w w' := by
  cases a with
  | none =>
    have h0 := h.nil rfl
    have h1 := h.le
    obtain rfl : l = [] := List.eq_nil_of_length_eq_zero (by omega)
    subst h0
    show Calls Tryz.prog 163 #[.slice none 0 0] w _
    have hq := fun w : World => Lib.run_eql_slice_nil (P := Tryz.prog) w 40 5 none 0 0 0 0 Tryz.underlying40
    go_enter Tryz.func163, Tryz.ntmps163
    go_wp2_with fail
    go_ret
    exact ⟨none, 0, rfl, Cit.Own.nil _ _ _, Below.refl _ _⟩
  | some x =>
    have hq := fun w : World => Lib.run_eql_slice_nil (P := Tryz.prog) w 40 5 (some x) l.length c 0 0 Tryz.underlying40
    have B0 : Below w.heap.size w (w.alloc (.cells #[] 5)) := (Below.refl _ _).alloc (Nat.le_refl _) _
    have O0 := own_lit w #[] 5 [] rfl (by simp)
    have HO := Lib.hid O0
    have HR := Lib.hid (h.stay B0)
    have HB := Lib.hid B0
    clear O0 B0 h
    go_enter Tryz.func163, Tryz.ntmps163
    go_wp2_with (first
      | ((with_reducible refine wp_append_row (o := ⟨some 7, .call _, _, _, _, _⟩) btP (.tmp 5) (.tmp 6) (by with_unfolding_all rfl) (by with_unfolding_all rfl) HO.out HR.out (by simp; omega) HB.out.size (by with_unfolding_all rfl) (by with_unfolding_all rfl) ?_); intro a2 c2 w2 hO2 hg2; rw [List.nil_append] at hO2; have HO2 := Lib.hid hO2; have HB2 := Lib.hid (HB.out.trans (grown_below hg2 HB.out.size (fun k hk => (HO.out.blk_ge hk).1))); clear hO2 hg2))
    go_ret
    exact ⟨a2, c2, rfl, HO2.out, HB2.out⟩

theorem idp_calls (W : World) (x : PtV) (B : Nat) (id : Int) (hc : W.cell? ⟨B, 0, none⟩ = some (.int .i64 id)) :
    Calls Tryz.prog 240 (#[.agg #[.int .i64 x.id.1, .int .i64 x.reg.base.1, .int .i64 x.reg.size.1, .bool x.keep, .slice x.a x.img.length x.c]] ++ #[.pointer (some ⟨B, 0, none⟩)]) W fun e w' => e = .returned (.bool (decide (x.id.1 = id))) ∧ Below W.heap.size W w' := by
  have hB := World.block_lt_of_cell? W _ hc
  have hne : B ≠ W.heap.size := by have : B < W.heap.size := hB; omega
  show Calls Tryz.prog 240 #[.agg #[.int .i64 x.id.1, .int .i64 x.reg.base.1, .int .i64 x.reg.size.1, .bool x.keep, .slice x.a x.img.length x.c], .pointer (some ⟨B, 0, none⟩)] W _
  obtain ⟨R, HR⟩ : ∃ R, Hid (R = decide (x.id.1 = id)) := ⟨_, rfl⟩
  rw [← HR.out]
  have HBL : Hid (∀ C, Below W.heap.size W (W.alloc (.cells C 46))) := fun C => (Below.refl _ W).alloc (Nat.le_refl _) _
  have c1 := keepA (.cells #[.int .i64 x.id.1, .int .i64 x.reg.base.1, .int .i64 x.reg.size.1, .bool x.keep, .slice x.a x.img.length x.c] 46) hc
  clear hc
  go_enter Tryz.func240, Tryz.ntmps240
  go_wp2_with fail
  go_ret
  exact ⟨ret_bool (by rw [HR.out]; rfl), HBL.out _⟩

structure SmallV (V : CfgV) : Prop where
  win : V.ws.length ≤ 100
  pts : V.ps.length ≤ 100
  chs : V.cs.length ≤ 100
  img : ∀ x ∈ V.ps, x.img.length ≤ 10000
def pt0 : Pt := ⟨⟨0, by decide⟩, ⟨⟨0, by decide⟩, ⟨0, by decide⟩⟩, false, []⟩
def hasP (ps : List PtV) (id : Int) : Bool := ps.any fun x => decide (x.id.1 = id)
def getP (ps : List PtV) (id : Int) : Pt := ((ps.find? fun x => decide (x.id.1 = id)).map PtV.pt).getD pt0
theorem getP_none {ps : List PtV} {id : Int} (h : hasP ps id = false) : getP ps id = pt0 := by
  have : ps.find? (fun x => decide (x.id.1 = id)) = none := by
    rw [List.find?_eq_none]
    intro x hx
    have := List.any_eq_false.1 h x hx
    simpa using this
  rw [getP, this]; rfl
theorem findI_get {α : Type} (p : α → Bool) (l : List α) (i : Nat) (hi : i < l.length) (h : findI p l = i) : l.find? p = some l[i] := by
  cases hf : l.findIdx? p with
  | none => rw [findI, hf] at h; simp at h
  | some j =>
    rw [findI, hf] at h
    obtain rfl : j = i := by simp at h; omega
    rw [List.findIdx?_eq_some_iff_getElem] at hf
    obtain ⟨_, hp, hn⟩ := hf
    rw [List.find?_eq_some_iff_getElem]
    exact ⟨hp, j, hi, rfl, fun k hk => by simpa using hn k hk⟩
theorem hasP_find {ps : List PtV} {id : Int} (h : findI (fun x : PtV => decide (x.id.1 = id)) ps = -1) : hasP ps id = false := by
  rw [hasP, ← findI_any, h]; rfl
theorem hasP_at {ps : List PtV} {id : Int} {i : Nat} (h : findI (fun x : PtV => decide (x.id.1 = id)) ps = i) : hasP ps id = true := by
  rw [hasP, ← findI_any, h]; simp
theorem rowP : RowType Tryz.prog 46 5 := ⟨⟨_, Tryz.underlying46, rfl⟩, by kernel_rfl⟩
theorem rowCfg : RowType Tryz.prog 26 3 := ⟨⟨_, Tryz.underlying26, rfl⟩, by kernel_rfl⟩
theorem set5 {w : World} {b : Nat} {x0 x1 x2 x3 x4 : Value} (y0 y1 y2 y3 y4 : Value) {T : TypeId} {fr : Nat × Nat} (h : w.heap[b]? = some (.cells #[x0, x1, x2, x3, x4] T fr)) :
    (((((w.setCell ⟨b, 0, none⟩ y0).setCell ⟨b, 1, none⟩ y1).setCell ⟨b, 2, none⟩ y2).setCell ⟨b, 3, none⟩ y3).setCell ⟨b, 4, none⟩ y4).heap[b]? = some (.cells #[y0, y1, y2, y3, y4] T fr) := by
  simp [World.setCell, Array.getElem?_modify, h]
theorem set5_save (w : World) (b : Nat) (y0 y1 y2 y3 y4 : Value) : Save (· ≠ b) w (((((w.setCell ⟨b, 0, none⟩ y0).setCell ⟨b, 1, none⟩ y1).setCell ⟨b, 2, none⟩ y2).setCell ⟨b, 3, none⟩ y3).setCell ⟨b, 4, none⟩ y4) :=
  ((((Save.set.trans Save.set).trans Save.set).trans Save.set).trans Save.set)
theorem cells_of {w : World} {b : Nat} {C : Array Value} {T : TypeId} {fr : Nat × Nat} (h : w.heap[b]? = some (.cells C T fr)) (i : Nat) {v : Value} (hv : C[i]? = some v) : w.cell? ⟨b, i, none⟩ = some v := by rw [World.cell?, h]; exact hv
theorem frozen_no {w : World} {b : Nat} {C : Array Value} {T : TypeId} (h : w.heap[b]? = some (.cells C T (0, 0))) (i : Nat) : w.frozen? ⟨b, i, none⟩ = false := by rw [World.frozen?, h]; simp
theorem box3 (w : World) (x y z : Value) (T : TypeId) : (w.alloc (.cells #[x, y, z] T)).cell? ⟨w.heap.size, 0, none⟩ = some x ∧ (w.alloc (.cells #[x, y, z] T)).cell? ⟨w.heap.size, 1, none⟩ = some y ∧ (w.alloc (.cells #[x, y, z] T)).cell? ⟨w.heap.size, 2, none⟩ = some z := by
  refine ⟨?_, ?_, ?_⟩ <;> (rw [World.cell?, heap_alloc_new]; rfl)

set_option maxRecDepth 100000 in
set_option maxHeartbeats 2000000 in
theorem part_get (w : World) (V : CfgV) (h : V.At w) (hs : SmallV V) (id : Int) : Calls Tryz.prog 212 #[.agg #[.slice V.wa V.ws.length V.wc, .slice V.pa V.ps.length V.pc, .slice V.ca V.cs.length V.cc], .int .i64 id] w fun e w' =>
    ∃ x : PtV, e = .returned (.tuple #[.agg #[.int .i64 x.id.1, .int .i64 x.reg.base.1, .int .i64 x.reg.size.1, .bool x.keep, .slice x.a x.img.length x.c], .bool (hasP V.ps id)]) ∧ x.pt = getP V.ps id ∧ Cit.Own 5 w.heap.size w' x.a x.img x.c ∧ Below w.heap.size w w' := by
  obtain ⟨w3, hw3⟩ : ∃ w3, w3 = ((w.alloc (.cells #[.slice V.wa V.ws.length V.wc, .slice V.pa V.ps.length V.pc, .slice V.ca V.cs.length V.cc] 26)).alloc (.cells #[.int .i64 id] 3)).alloc (.cells #[.int .i64 0, .int .i64 0, .int .i64 0, .bool false, .slice none 0 0] 46) := ⟨_, rfl⟩
  have HB3 : Hid (Below w.heap.size w w3) := by rw [Hid, hw3]; exact (((Below.refl _ w).alloc (Nat.le_refl _) _).alloc (by simp) _).alloc (by simp; omega) _
  have hsz3 : w3.heap.size = w.heap.size + 3 := by rw [hw3]; simp
  have d0 : w3.cell? ⟨w.heap.size, 0, none⟩ = some (.slice V.wa V.ws.length V.wc) ∧ w3.cell? ⟨w.heap.size, 1, none⟩ = some (.slice V.pa V.ps.length V.pc) ∧ w3.cell? ⟨w.heap.size, 2, none⟩ = some (.slice V.ca V.cs.length V.cc) := by
    obtain ⟨a1, a2, a3⟩ := box3 w (.slice V.wa V.ws.length V.wc) (.slice V.pa V.ps.length V.pc) (.slice V.ca V.cs.length V.cc) 26
    rw [hw3]
    exact ⟨keepA _ (keepA _ a1), keepA _ (keepA _ a2), keepA _ (keepA _ a3)⟩
  have d1 : w3.cell? ⟨w.heap.size + 1, 0, none⟩ = some (.int .i64 id) := by
    rw [hw3]
    refine keepA _ ?_
    rw [World.cell?, show w.heap.size + 1 = (w.alloc (.cells #[.slice V.wa V.ws.length V.wc, .slice V.pa V.ps.length V.pc, .slice V.ca V.cs.length V.cc] 26)).heap.size by simp, heap_alloc_new]; rfl
  have d2 : w3.heap[w.heap.size + 1 + 1]? = some (.cells #[.int .i64 0, .int .i64 0, .int .i64 0, .bool false, .slice none 0 0] 46 (0, 0)) := by
    rw [hw3, show w.heap.size + 1 + 1 = ((w.alloc (.cells #[.slice V.wa V.ws.length V.wc, .slice V.pa V.ps.length V.pc, .slice V.ca V.cs.length V.cc] 26)).alloc (.cells #[.int .i64 id] 3)).heap.size by simp, heap_alloc_new]
  have hV := h.stay HB3.out
  have HI := Lib.hid (pts_index (p := fun x => decide (x.id.1 = id)) 240 #[.pointer (some ⟨w.heap.size + 1, 0, none⟩)] (enters_of Tryz.func240 (by kernel_rfl) rfl) w3 V.pa V.ps V.pc hV.pts
    (fun W i hi hb => (idp_calls W V.ps[i] (w.heap.size + 1) id (keep hb d1)).mono fun e w' ⟨he, hb'⟩ => ⟨he, hb.trans (hb'.mono hb.size)⟩))
  have HV := Lib.hid hV
  have HD1 := Lib.hid d2
  clear h hV d1 d2
  rcases findI_range (fun x : PtV => decide (x.id.1 = id)) V.ps with hf | ⟨i, hi, hf, hp⟩
  · have HH := hasP_find hf
    have HG := Lib.hid (getP_none HH)
    rw [HH]
    rw [hf] at HI
    clear hf HH
    go_enter Tryz.func212, Tryz.ntmps212
    go_wp2_with fail
    rw [← hw3]
    clear hw3
    refine (HI.out).mono ?_
    rintro e w4 ⟨rfl, hb4⟩
    have d0 := And.intro (keep hb4 d0.1) (And.intro (keep hb4 d0.2.1) (keep hb4 d0.2.2))
    have e2 : w4.heap[w.heap.size + 1 + 1]? = some (.cells #[.int .i64 0, .int .i64 0, .int .i64 0, .bool false, .slice none 0 0] 46 (0, 0)) := (hb4.block _ (by rw [hsz3]; omega)).trans HD1.out
    have HV4 := Lib.hid (HV.out.stay hb4)
    have HB4 := Lib.hid (HB3.out.trans (hb4.mono HB3.out.size))
    have hsz4 : w.heap.size + 3 ≤ w4.heap.size := by rw [← hsz3]; exact hb4.size
    clear hb4 HI
    obtain ⟨d0, d0', d0''⟩ := d0
    have g0 := cells_of e2 0 rfl
    have g1 := cells_of e2 1 rfl
    have g2 := cells_of e2 2 rfl
    have g3 := cells_of e2 3 rfl
    have g4 := cells_of e2 4 rfl
    have f0 : ∀ i, w4.frozen? ⟨w.heap.size + 1 + 1, i, none⟩ = false := frozen_no e2
    go_wp2_with fail
    refine bodyPost_ret (resB2 rowP rfl (by rfl) (set5 _ _ _ _ _ e2) rfl) rfl ⟨⟨⟨0, by decide⟩, ⟨⟨0, by decide⟩, ⟨0, by decide⟩⟩, false, none, [], 0⟩, rfl, ?_, Cit.Own.nil _ _ _, ?_⟩
    · rw [HG.out]; rfl
    · exact HB4.out.trans ((set5_save _ _ _ _ _ _ _).below HB4.out.size (fun k hk => by omega))
  · have HH := hasP_at hf
    have HX := HV.out.img V.ps[i] (List.getElem_mem hi)
    have HG : Hid (getP V.ps id = V.ps[i].pt) := by rw [Hid, getP, findI_get _ V.ps i hi hf]; rfl
    have HL : V.ps[i].img.length ≤ 10000 := hs.img _ (List.getElem_mem hi)
    have HPL := HV.out.pts.len_le
    rw [HH]
    rw [hf] at HI
    clear hf HH hp
    go_enter Tryz.func212, Tryz.ntmps212
    go_wp2_with fail
    rw [← hw3]
    clear hw3
    refine (HI.out).mono ?_
    rintro e w4 ⟨rfl, hb4⟩
    have d0 := And.intro (keep hb4 d0.1) (And.intro (keep hb4 d0.2.1) (keep hb4 d0.2.2))
    have e2 : w4.heap[w.heap.size + 1 + 1]? = some (.cells #[.int .i64 0, .int .i64 0, .int .i64 0, .bool false, .slice none 0 0] 46 (0, 0)) := (hb4.block _ (by rw [hsz3]; omega)).trans HD1.out
    have HV4 := Lib.hid (HV.out.stay hb4)
    have HB4 := Lib.hid (HB3.out.trans (hb4.mono HB3.out.size))
    have hsz4 : w.heap.size + 3 ≤ w4.heap.size := by rw [← hsz3]; exact hb4.size
    clear hb4 HI
    obtain ⟨d0, d0', d0''⟩ := d0
    have HX := Lib.hid (HV4.out.img V.ps[i] (List.getElem_mem hi))
    have i0 := HV4.out.pts.index etP i hi
    obtain ⟨u0, u1, u2, u3, u4⟩ := pts_cells HV4.out.pts (Below.refl _ _) i hi
    obtain ⟨x, hx⟩ : ∃ x : PtV, Hid (x = V.ps[i]) := ⟨V.ps[i], rfl⟩
    rw [← hx.out] at u0 u1 u2 u3 u4 HX HL HG
    have HN : Hid ((w4.alloc (.cells #[.int .i64 0, .int .i64 0, .int .i64 0, .bool false, .slice none 0 0] 46)).heap[w4.heap.size]? = some (.cells #[.int .i64 0, .int .i64 0, .int .i64 0, .bool false, .slice none 0 0] 46 (0, 0))) := heap_alloc_new _ _
    have HE2 := Lib.hid e2
    clear e2
    go_wp2_with ((with_reducible refine wpList_storeB (o := ⟨none, .store _ (.tmp 7) (.tmp 19), _, _, _, _⟩) rowP (.tmp 7) (.tmp 19) (by with_unfolding_all rfl) (by with_unfolding_all rfl) (by with_unfolding_all rfl) (by with_unfolding_all rfl) (by with_unfolding_all rfl) HN.out (by with_unfolding_all rfl) (by with_unfolding_all rfl) (by with_unfolding_all rfl) ?_); intro w5 hb5 hS5; have k4 := cells_of hb5 4 rfl; have HB5 := Lib.hid hb5; have HS5 := Lib.hid hS5; clear hb5 hS5)
    have hsz5 : w4.heap.size + 1 ≤ w5.heap.size := by have := HS5.out.size; rwa [World.size_alloc] at this
    have B45 : Below w4.heap.size w4 w5 := ((Below.refl _ w4).alloc (Nat.le_refl _) _).trans (HS5.out.below (by simp) (fun k hk => by omega))
    have HCL := Lib.hid (sclone_calls w5 x.a x.img x.c (HX.out.stay B45) (by omega))
    have HB45 := Lib.hid B45
    clear B45
    go_wp2_with fail
    refine (HCL.out).mono ?_
    rintro e w6 ⟨a6, c6, rfl, hO6, hb6⟩
    have hsz6 := hb6.size
    have e6 : w6.heap[w4.heap.size]? = _ := (hb6.block _ (by omega)).trans HB5.out
    have r6 : w6.heap[w.heap.size + 1 + 1]? = some (.cells #[.int .i64 0, .int .i64 0, .int .i64 0, .bool false, .slice none 0 0] 46 (0, 0)) := (hb6.block _ (by omega)).trans ((HB45.out.block _ (by omega)).trans HE2.out)
    have k0 := cells_of e6 0 rfl
    have k1 := cells_of e6 1 rfl
    have k2 := cells_of e6 2 rfl
    have k3 := cells_of e6 3 rfl
    have k4 := cells_of e6 4 rfl
    have f6 := frozen_no e6
    have HO6 := Lib.hid hO6
    have HB6 := Lib.hid (HB4.out.trans ((HB45.out.mono HB4.out.size).trans (hb6.mono (by have := HB4.out.size; have := HB45.out.size; omega))))
    have HR7 : Hid ((w6.setCell ⟨w4.heap.size, 4, none⟩ (.slice a6 x.img.length c6)).heap[w.heap.size + 1 + 1]? = some (.cells #[.int .i64 0, .int .i64 0, .int .i64 0, .bool false, .slice none 0 0] 46 (0, 0))) := (Below.heap_setCell _ _ _ _ (by show w.heap.size + 1 + 1 ≠ w4.heap.size; omega)).trans r6
    clear hO6 hb6 e6 r6 HCL
    go_wp2_with ((with_reducible refine wpList_storeB (o := ⟨none, .store _ (.tmp 4) (.tmp 24), _, _, _, _⟩) rowP (.tmp 4) (.tmp 24) (by with_unfolding_all rfl) (by with_unfolding_all rfl) (by with_unfolding_all rfl) (by with_unfolding_all rfl) (by with_unfolding_all rfl) HR7.out (by with_unfolding_all rfl) (by with_unfolding_all rfl) (by with_unfolding_all rfl) ?_); intro w7 hb7 hS7; have HB7 := Lib.hid hb7; have HS7 := Lib.hid hS7; clear hb7 hS7)
    refine bodyPost_ret (resB2 rowP rfl (by rfl) HB7.out rfl) rfl ⟨⟨x.id, x.reg, x.keep, a6, x.img, c6⟩, rfl, ?_, ?_, ?_⟩
    · rw [HG.out]; rfl
    · refine ((HO6.out.save (S := (· ≠ w4.heap.size)) Save.set (fun g hg => ?_)).save HS7.out (fun g hg => ?_)).low (by have := HB4.out.size; omega)
      · have := (HO6.out.blk_ge hg).1; omega
      · have := (HO6.out.blk_ge hg).1; omega
    · exact (HB6.out.setCell (p := ⟨w4.heap.size, 4, none⟩) (by have := HB4.out.size; exact this) _).trans (HS7.out.below (by simp [World.setCell]; exact HB6.out.size) (fun k hk => by omega))

set_option maxRecDepth 100000 in
set_option maxHeartbeats 1000000 in
theorem has_calls (w : World) (V : CfgV) (h : V.At w) (hs : SmallV V) (id : Int) : Calls Tryz.prog 249 #[.agg #[.slice V.wa V.ws.length V.wc, .slice V.pa V.ps.length V.pc, .slice V.ca V.cs.length V.cc], .int .i64 id] w fun e w' =>
    e = .returned (.bool (hasP V.ps id)) ∧ Below w.heap.size w w' := by
  have B0 : Below w.heap.size w (w.alloc (.cells #[.slice V.wa V.ws.length V.wc, .slice V.pa V.ps.length V.pc, .slice V.ca V.cs.length V.cc] 26)) := (Below.refl _ w).alloc (Nat.le_refl _) _
  have HC := Lib.hid (part_get _ V (h.stay B0) hs id)
  have HB0 := Lib.hid B0
  obtain ⟨R, HR⟩ : ∃ R, Hid (R = hasP V.ps id) := ⟨_, rfl⟩
  rw [← HR.out] at HC ⊢
  clear h B0
  go_enter Tryz.func249, Tryz.ntmps249
  go_wp2_with fail
  refine (HC.out).mono ?_
  rintro e w2 ⟨x, rfl, hx, hO, hb2⟩
  have HB2 := Lib.hid (HB0.out.trans (hb2.mono HB0.out.size))
  clear hx hO hb2 HC
  go_wp2_with fail
  go_ret
  exact ⟨rfl, HB2.out.alloc HB2.out.size _⟩


end Go.Proofs.YtlholdllibghbaaGreat

