/- slices.IndexFunc, slices.ContainsFunc at windows, partitions, channels: walked (printed by genfind.py). -/
import Derived.Test.YtpnbaapjjchlbaaChan
namespace Go.Proofs.Ytpnbaapjjchlbaa
open Go Go.RowKit Go.Cit

/-- The place of the first one of which p holds; -1. -/
def findI {α : Type} (p : α → Bool) (l : List α) : Int := match l.findIdx? p with | some i => (i : Int) | none => -1
theorem findI_hit {α : Type} (p : α → Bool) (l : List α) (k : Nat) (h : k < l.length) (hn : ∀ j (hj : j < l.length), j < k → p l[j] = false) (hp : p l[k] = true) : findI p l = k := by
  have : l.findIdx? p = some k := by
    rw [List.findIdx?_eq_some_iff_getElem]
    exact ⟨h, hp, fun j hj => by rw [hn j (by omega) hj]; decide⟩
  rw [findI, this]
theorem findI_none {α : Type} (p : α → Bool) (l : List α) (hn : ∀ j (hj : j < l.length), p l[j] = false) : findI p l = -1 := by
  have : l.findIdx? p = none := by
    rw [List.findIdx?_eq_none_iff]
    intro x hx
    obtain ⟨i, hi, rfl⟩ := List.mem_iff_getElem.1 hx
    exact hn i hi
  rw [findI, this]
theorem findI_any {α : Type} (p : α → Bool) (l : List α) : decide (0 ≤ findI p l) = l.any p := by
  cases h : l.findIdx? p with
  | none =>
    simp only [findI, h]
    rw [List.findIdx?_eq_none_iff] at h
    have : l.any p = false := by rw [List.any_eq_false]; intro x hx; rw [h x hx]; decide
    rw [this]; rfl
  | some i =>
    rw [findI, h]
    rw [List.findIdx?_eq_some_iff_getElem] at h
    obtain ⟨hi, hp, _⟩ := h
    have : l.any p = true := List.any_eq_true.2 ⟨l[i], List.getElem_mem hi, hp⟩
    rw [this]; simp
theorem findI_range {α : Type} (p : α → Bool) (l : List α) : findI p l = -1 ∨ ∃ i, ∃ h : i < l.length, findI p l = i ∧ p l[i] = true := by
  cases h : l.findIdx? p with
  | none => left; rw [findI, h]
  | some i =>
    right
    rw [findI, h]
    rw [List.findIdx?_eq_some_iff_getElem] at h
    obtain ⟨hi, hp, _⟩ := h
    exact ⟨i, hi, rfl, hp⟩
theorem win_cells {w w' : World} {a : Option Addr} {l : List Win} {c : Nat} (h : Vec cWin 2 w a l c) (hb : Below w.heap.size w w') (k : Nat) (hk : k < l.length) :
    w'.cell? (ad a (k * 2)) = some (.int .i64 l[k].len.1) ∧ w'.cell? ⟨(ad a (k * 2)).block, (ad a (k * 2)).off + 1, none⟩ = some (.int .i64 l[k].part.1) := by
  have h := h.stay cWin_len hb
  exact ⟨h.field0 k hk (by decide) rfl, h.field k hk 1 (by decide) rfl⟩

set_option maxRecDepth 100000 in
set_option maxHeartbeats 1000000 in
theorem win_index {p : Win → Bool} (g : Nat) (lb : Array Value) (eg : ∀ args w, (callFunc g args).run Try.prog w = .ok (.enter g args) w) (w : World) (a : Option Addr) (l : List Win) (c : Nat) (h : Vec cWin 2 w a l c) (hp : ∀ (W : World) (i : Nat) (hi : i < l.length), Below w.heap.size w W → Calls Try.prog g (#[.agg #[.int .i64 l[i].len.1, .int .i64 l[i].part.1]] ++ lb) W fun e w' => e = .returned (.bool (p l[i])) ∧ Below w.heap.size w w') :
    Calls Try.prog 177 #[.slice a l.length c, .func (.func g) #[] lb] w fun e w' => e = .returned (.int .i64 (findI p l)) ∧ Below w.heap.size w w' := by
  obtain ⟨R, HR⟩ : ∃ R, Hid (R = findI p l) := ⟨_, rfl⟩
  rw [← HR.out]
  have hlen := h.len_le
  have HH := Lib.hid h
  have HP := Lib.hid hp
  clear h hp
  go_enter Try.func177, Try.ntmps177
  go_wp2_with fail
  go_loopw [8] (fun i wr => ∃ (k : Nat), Hid (∀ j (hj : j < l.length), j < k → p l[j] = false) ∧ k ≤ l.length ∧ i = .int .i64 k ∧ Below w.heap.size w wr) (fun i _ => l.length - (intOf i).toNat)
  case atStart => exact ⟨0, fun j hj h => by omega, by omega, rfl, Below.refl _ _⟩
  case round =>
    obtain ⟨k, ha, hk, rfl, B⟩ := hrel
    by_cases hlt : k < l.length
    · have i0 := HH.out.index etW k hlt
      obtain ⟨d0, d1⟩ := win_cells HH.out B k hlt
      have hcall := HP.out wr k hlt B
      cases hq : p l[k] with
      | true =>
        rw [hq] at hcall
        have HF : Hid (R = k) := by rw [Hid, HR.out, findI_hit p l k hlt ha.out hq]
        clear hq
        go_wp2_with fail
        refine (hcall).mono ?_
        rintro e w2 ⟨rfl, hb2⟩
        go_wp2_with fail
        go_ret
        exact ⟨ret_int HF.out.symm, hb2⟩
      | false =>
        rw [hq] at hcall
        have HN : Hid (∀ j (hj : j < l.length), j < k + 1 → p l[j] = false) := fun j hj h => by
          rcases Nat.lt_or_ge j k with h1 | h1
          · exact ha.out j hj h1
          · obtain rfl : j = k := by omega
            exact hq
        clear hq
        go_wp2_with fail
        refine (hcall).mono ?_
        rintro e w2 ⟨rfl, hb2⟩
        go_wp2_with fail
        go_roundw
        case rel => exact ⟨k + 1, HN.out, by omega, by go_num, hb2⟩
        case measure => simp [intOf]; omega
    · have HF : Hid (R = -1) := by rw [Hid, HR.out, findI_none p l (fun j hj => ha.out j hj (by omega))]
      go_wp2_with fail
      go_ret
      exact ⟨ret_int HF.out.symm, B⟩
theorem win_contains {p : Win → Bool} (g : Nat) (lb : Array Value) (eg : ∀ args w, (callFunc g args).run Try.prog w = .ok (.enter g args) w) (w : World) (a : Option Addr) (l : List Win) (c : Nat) (h : Vec cWin 2 w a l c) (hp : ∀ (W : World) (i : Nat) (hi : i < l.length), Below w.heap.size w W → Calls Try.prog g (#[.agg #[.int .i64 l[i].len.1, .int .i64 l[i].part.1]] ++ lb) W fun e w' => e = .returned (.bool (p l[i])) ∧ Below w.heap.size w w') :
    Calls Try.prog 163 #[.slice a l.length c, .func (.func g) #[] lb] w fun e w' => e = .returned (.bool (l.any p)) ∧ Below w.heap.size w w' := by
  have HC := Lib.hid (win_index g lb eg w a l c h hp)
  obtain ⟨R, HR⟩ : ∃ R, Hid (R = findI p l) := ⟨_, rfl⟩
  obtain ⟨S, HS⟩ : ∃ S, Hid (S = l.any p) := ⟨_, rfl⟩
  rw [← HR.out] at HC
  rw [← HS.out]
  clear h hp
  go_enter Try.func163, Try.ntmps163
  go_wp2_with fail
  refine (HC.out).mono ?_
  rintro e w2 ⟨rfl, hb2⟩
  go_wp2_with fail
  go_ret
  exact ⟨ret_bool (by rw [HS.out, ← findI_any p l, ← HR.out]), hb2⟩
theorem pts_cells {w w' : World} {a : Option Addr} {l : List PtV} {c : Nat} (h : Vec cPt 5 w a l c) (hb : Below w.heap.size w w') (k : Nat) (hk : k < l.length) :
    w'.cell? (ad a (k * 5)) = some (.int .i64 l[k].id.1) ∧ w'.cell? ⟨(ad a (k * 5)).block, (ad a (k * 5)).off + 1, none⟩ = some (.int .i64 l[k].reg.base.1) ∧ w'.cell? ⟨(ad a (k * 5)).block, (ad a (k * 5)).off + 2, none⟩ = some (.int .i64 l[k].reg.size.1) ∧ w'.cell? ⟨(ad a (k * 5)).block, (ad a (k * 5)).off + 3, none⟩ = some (.bool l[k].keep) ∧ w'.cell? ⟨(ad a (k * 5)).block, (ad a (k * 5)).off + 4, none⟩ = some (.slice l[k].a l[k].img.length l[k].c) := by
  have h := h.stay cPt_len hb
  exact ⟨h.field0 k hk (by decide) rfl, h.field k hk 1 (by decide) rfl, h.field k hk 2 (by decide) rfl, h.field k hk 3 (by decide) rfl, h.field k hk 4 (by decide) rfl⟩

set_option maxRecDepth 100000 in
set_option maxHeartbeats 1000000 in
theorem pts_index {p : PtV → Bool} (g : Nat) (lb : Array Value) (eg : ∀ args w, (callFunc g args).run Try.prog w = .ok (.enter g args) w) (w : World) (a : Option Addr) (l : List PtV) (c : Nat) (h : Vec cPt 5 w a l c) (hp : ∀ (W : World) (i : Nat) (hi : i < l.length), Below w.heap.size w W → Calls Try.prog g (#[.agg #[.int .i64 l[i].id.1, .int .i64 l[i].reg.base.1, .int .i64 l[i].reg.size.1, .bool l[i].keep, .slice l[i].a l[i].img.length l[i].c]] ++ lb) W fun e w' => e = .returned (.bool (p l[i])) ∧ Below w.heap.size w w') :
    Calls Try.prog 68 #[.slice a l.length c, .func (.func g) #[] lb] w fun e w' => e = .returned (.int .i64 (findI p l)) ∧ Below w.heap.size w w' := by
  obtain ⟨R, HR⟩ : ∃ R, Hid (R = findI p l) := ⟨_, rfl⟩
  rw [← HR.out]
  have hlen := h.len_le
  have HH := Lib.hid h
  have HP := Lib.hid hp
  clear h hp
  go_enter Try.func68, Try.ntmps68
  go_wp2_with fail
  go_loopw [8] (fun i wr => ∃ (k : Nat), Hid (∀ j (hj : j < l.length), j < k → p l[j] = false) ∧ k ≤ l.length ∧ i = .int .i64 k ∧ Below w.heap.size w wr) (fun i _ => l.length - (intOf i).toNat)
  case atStart => exact ⟨0, fun j hj h => by omega, by omega, rfl, Below.refl _ _⟩
  case round =>
    obtain ⟨k, ha, hk, rfl, B⟩ := hrel
    by_cases hlt : k < l.length
    · have i0 := HH.out.index etP k hlt
      obtain ⟨d0, d1, d2, d3, d4⟩ := pts_cells HH.out B k hlt
      have hcall := HP.out wr k hlt B
      cases hq : p l[k] with
      | true =>
        rw [hq] at hcall
        have HF : Hid (R = k) := by rw [Hid, HR.out, findI_hit p l k hlt ha.out hq]
        clear hq
        go_wp2_with fail
        refine (hcall).mono ?_
        rintro e w2 ⟨rfl, hb2⟩
        go_wp2_with fail
        go_ret
        exact ⟨ret_int HF.out.symm, hb2⟩
      | false =>
        rw [hq] at hcall
        have HN : Hid (∀ j (hj : j < l.length), j < k + 1 → p l[j] = false) := fun j hj h => by
          rcases Nat.lt_or_ge j k with h1 | h1
          · exact ha.out j hj h1
          · obtain rfl : j = k := by omega
            exact hq
        clear hq
        go_wp2_with fail
        refine (hcall).mono ?_
        rintro e w2 ⟨rfl, hb2⟩
        go_wp2_with fail
        go_roundw
        case rel => exact ⟨k + 1, HN.out, by omega, by go_num, hb2⟩
        case measure => simp [intOf]; omega
    · have HF : Hid (R = -1) := by rw [Hid, HR.out, findI_none p l (fun j hj => ha.out j hj (by omega))]
      go_wp2_with fail
      go_ret
      exact ⟨ret_int HF.out.symm, B⟩
theorem pts_contains {p : PtV → Bool} (g : Nat) (lb : Array Value) (eg : ∀ args w, (callFunc g args).run Try.prog w = .ok (.enter g args) w) (w : World) (a : Option Addr) (l : List PtV) (c : Nat) (h : Vec cPt 5 w a l c) (hp : ∀ (W : World) (i : Nat) (hi : i < l.length), Below w.heap.size w W → Calls Try.prog g (#[.agg #[.int .i64 l[i].id.1, .int .i64 l[i].reg.base.1, .int .i64 l[i].reg.size.1, .bool l[i].keep, .slice l[i].a l[i].img.length l[i].c]] ++ lb) W fun e w' => e = .returned (.bool (p l[i])) ∧ Below w.heap.size w w') :
    Calls Try.prog 67 #[.slice a l.length c, .func (.func g) #[] lb] w fun e w' => e = .returned (.bool (l.any p)) ∧ Below w.heap.size w w' := by
  have HC := Lib.hid (pts_index g lb eg w a l c h hp)
  obtain ⟨R, HR⟩ : ∃ R, Hid (R = findI p l) := ⟨_, rfl⟩
  obtain ⟨S, HS⟩ : ∃ S, Hid (S = l.any p) := ⟨_, rfl⟩
  rw [← HR.out] at HC
  rw [← HS.out]
  clear h hp
  go_enter Try.func67, Try.ntmps67
  go_wp2_with fail
  refine (HC.out).mono ?_
  rintro e w2 ⟨rfl, hb2⟩
  go_wp2_with fail
  go_ret
  exact ⟨ret_bool (by rw [HS.out, ← findI_any p l, ← HR.out]), hb2⟩

set_option maxRecDepth 100000 in
set_option maxHeartbeats 1000000 in
theorem chs_index {p : Ch → Bool} (g : Nat) (lb : Array Value) (eg : ∀ args w, (callFunc g args).run Try.prog w = .ok (.enter g args) w) (w : World) (a : Option Addr) (l : List Ch) (c : Nat) (h : Vec cCh 5 w a l c) (hp : ∀ (W : World) (i : Nat) (hi : i < l.length), Below w.heap.size w W → Calls Try.prog g (#[.agg #[.int .i64 l[i].id.1, .int .i64 l[i].src.1, .int .i64 l[i].dst.1, .int .i64 l[i].cap.1, .int .i64 l[i].size.1]] ++ lb) W fun e w' => e = .returned (.bool (p l[i])) ∧ Below w.heap.size w w') :
    Calls Try.prog 86 #[.slice a l.length c, .func (.func g) #[] lb] w fun e w' => e = .returned (.int .i64 (findI p l)) ∧ Below w.heap.size w w' := by
  obtain ⟨R, HR⟩ : ∃ R, Hid (R = findI p l) := ⟨_, rfl⟩
  rw [← HR.out]
  have hlen := h.len_le
  have HH := Lib.hid h
  have HP := Lib.hid hp
  clear h hp
  go_enter Try.func86, Try.ntmps86
  go_wp2_with fail
  go_loopw [8] (fun i wr => ∃ (k : Nat), Hid (∀ j (hj : j < l.length), j < k → p l[j] = false) ∧ k ≤ l.length ∧ i = .int .i64 k ∧ Below w.heap.size w wr) (fun i _ => l.length - (intOf i).toNat)
  case atStart => exact ⟨0, fun j hj h => by omega, by omega, rfl, Below.refl _ _⟩
  case round =>
    obtain ⟨k, ha, hk, rfl, B⟩ := hrel
    by_cases hlt : k < l.length
    · have i0 := HH.out.index etC k hlt
      obtain ⟨d0, d1, d2, d3, d4⟩ := chs_cells HH.out B k hlt
      have hcall := HP.out wr k hlt B
      cases hq : p l[k] with
      | true =>
        rw [hq] at hcall
        have HF : Hid (R = k) := by rw [Hid, HR.out, findI_hit p l k hlt ha.out hq]
        clear hq
        go_wp2_with fail
        refine (hcall).mono ?_
        rintro e w2 ⟨rfl, hb2⟩
        go_wp2_with fail
        go_ret
        exact ⟨ret_int HF.out.symm, hb2⟩
      | false =>
        rw [hq] at hcall
        have HN : Hid (∀ j (hj : j < l.length), j < k + 1 → p l[j] = false) := fun j hj h => by
          rcases Nat.lt_or_ge j k with h1 | h1
          · exact ha.out j hj h1
          · obtain rfl : j = k := by omega
            exact hq
        clear hq
        go_wp2_with fail
        refine (hcall).mono ?_
        rintro e w2 ⟨rfl, hb2⟩
        go_wp2_with fail
        go_roundw
        case rel => exact ⟨k + 1, HN.out, by omega, by go_num, hb2⟩
        case measure => simp [intOf]; omega
    · have HF : Hid (R = -1) := by rw [Hid, HR.out, findI_none p l (fun j hj => ha.out j hj (by omega))]
      go_wp2_with fail
      go_ret
      exact ⟨ret_int HF.out.symm, B⟩
theorem chs_contains {p : Ch → Bool} (g : Nat) (lb : Array Value) (eg : ∀ args w, (callFunc g args).run Try.prog w = .ok (.enter g args) w) (w : World) (a : Option Addr) (l : List Ch) (c : Nat) (h : Vec cCh 5 w a l c) (hp : ∀ (W : World) (i : Nat) (hi : i < l.length), Below w.heap.size w W → Calls Try.prog g (#[.agg #[.int .i64 l[i].id.1, .int .i64 l[i].src.1, .int .i64 l[i].dst.1, .int .i64 l[i].cap.1, .int .i64 l[i].size.1]] ++ lb) W fun e w' => e = .returned (.bool (p l[i])) ∧ Below w.heap.size w w') :
    Calls Try.prog 167 #[.slice a l.length c, .func (.func g) #[] lb] w fun e w' => e = .returned (.bool (l.any p)) ∧ Below w.heap.size w w' := by
  have HC := Lib.hid (chs_index g lb eg w a l c h hp)
  obtain ⟨R, HR⟩ : ∃ R, Hid (R = findI p l) := ⟨_, rfl⟩
  obtain ⟨S, HS⟩ : ∃ S, Hid (S = l.any p) := ⟨_, rfl⟩
  rw [← HR.out] at HC
  rw [← HS.out]
  clear h hp
  go_enter Try.func167, Try.ntmps167
  go_wp2_with fail
  refine (HC.out).mono ?_
  rintro e w2 ⟨rfl, hb2⟩
  go_wp2_with fail
  go_ret
  exact ⟨ret_bool (by rw [HS.out, ← findI_any p l, ← HR.out]), hb2⟩
end Go.Proofs.Ytpnbaapjjchlbaa
