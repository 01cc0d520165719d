/- The program's table: walked. -/
import Derived.Test.YtbglmglgaobjmaaProg
import Derived.Test.YtbglmglgaobjmaaRefCat
import Derived.Test.YtbglmglgaobjmaaCrcDef
namespace Go.Proofs.Ytbglmglgaobjmaa
open Go Go.RowKit Go.Cit

theorem vw_lit (k : Nat) (h : k < 4294967296) : Value.int .u32 (k : Int) = vw (wI k) := by rw [vw, wI_nat k (by omega) (by omega)]

set_option maxHeartbeats 1000000 in
theorem table_calls (w : World) :
    Calls Try.prog 52 #[] w fun e w' => ∃ cs : Array Value, e = .returned (.agg cs) ∧ cs.size = 16 ∧ (∀ j : Nat, j < 16 → cs[j]? = some (vw (tabP (wI j)))) ∧ Below w.heap.size w w' := by
  go_enter Try.func52, Try.ntmps52
  go_wp2
  go_loopw [5] (fun i wr => ∃ (k : Nat) (old cur : Array Value), k ≤ 16 ∧ i = .int .i64 k ∧ Hid (wr.heap[w.heap.size]? = some (.cells old 65 (0, 0)) ∧ wr.heap[w.heap.size + 1]? = some (.cells cur 65 (0, 0)) ∧ old.size = 16 ∧ cur.size = 16) ∧ Hid (∀ j : Nat, j < k → cur[j]? = some (vw (tabP (wI j)))) ∧ Hid (∀ v ∈ cur, v.oneCell' = true) ∧ Below w.heap.size w wr) (fun i _ => 16 - (intOf i).toNat)
  case atStart =>
    refine ⟨0, _, _, by omega, rfl, ⟨heap_alloc2_old _ _ _, heap_alloc2_new _ _ _, rfl, rfl⟩, fun j h => by omega, ?_, ((Below.refl _ _).alloc (Nat.le_refl _) _).alloc (by simp) _⟩
    intro v hv; simp at hv; subst hv; rfl
  case round =>
    obtain ⟨k, old, cur, hk, rfl, HC, HJ, H1, hb⟩ := hrel
    by_cases hlt : k < 16
    · have hcell : ∃ v, wr.cell? ⟨w.heap.size + 1, k, none⟩ = some v := by
        rw [cell_of_row wr _ k cur _ _ HC.out.2.1]; exact ⟨cur[k]'(by have := HC.out.2.2.2; omega), by simp [HC.out.2.2.2, hlt]⟩
      obtain ⟨v, hcell⟩ := hcell
      have hfr := frozen_of_row wr _ k cur _ HC.out.2.1
      go_wp2
      go_loopw [3, 10] (fun s i wx => ∃ (j : Nat) (b : UInt32), Hid (b = bitsP j (wI k)) ∧ j ≤ 4 ∧ i = .int .i64 j ∧ s = vw b ∧ wx = wr) (fun _ i _ => 4 - (intOf i).toNat)
      case atStart => exact ⟨0, _, rfl, by omega, rfl, vw_lit k (by omega), rfl⟩
      case round =>
        obtain ⟨j, b, HB, hj, rfl, rfl, rfl⟩ := hrel
        by_cases hjl : j < 4
        · go_wp2
          go_roundw
          case rel => exact ⟨j + 1, bitP b, by rw [Hid, bitsP_succ, HB.out], by omega, by go_num, rfl, trivial⟩
          case measure => simp [intOf]; omega
        · have hj4 : j = 4 := by omega
          have HB2 : Hid (b = tabP (wI k)) := by rw [Hid, HB.out, hj4]; rfl
          clear HB hj4
          go_wp2
          go_roundw
          case rel =>
            refine ⟨k + 1, old, cur.setIfInBounds k (vw b), by omega, by go_num, ⟨?_, ?_, HC.out.2.2.1, by simp [HC.out.2.2.2]⟩, ?_, ?_, hb.setCell (by simp) _⟩
            · rw [heap_setCell_other _ _ _ _ (by simp)]; exact HC.out.1
            · exact heap_setCell_same _ _ _ _ _ _ HC.out.2.1
            · intro i hi
              by_cases e : i = k
              · subst e; rw [Array.getElem?_setIfInBounds_self_of_lt (by have := HC.out.2.2.2; omega), HB2.out]
              · rw [Array.getElem?_setIfInBounds_ne (by omega)]; exact HJ.out i (by omega)
            · intro v hv
              rcases Array.mem_or_eq_of_mem_setIfInBounds hv with h | h
              · exact H1.out v h
              · rw [h]; rfl
          case measure => simp [intOf]; omega
    · have hk2 : k = 16 := by omega
      subst hk2
      go_wp2_with (first | (refine wpList_load_row rfl 65 (.tmp 1) rfl (w.heap.size + 1) rfl 65 cur (0, 0) _ HC.out.2.1 Try.underlying65 rfl (by rw [HC.out.2.2.2]; kernel_rfl) ?_) | (refine wpList_store_row rfl 65 (.tmp 0) (.tmp 24) rfl w.heap.size cur rfl rfl 65 old HC.out.1 (by rw [HC.out.2.2.2]; kernel_rfl) (by rw [HC.out.2.2.2, HC.out.2.2.1]) (Array.all_eq_true_iff_forall_mem.2 H1.out) ?_))
      refine bodyPost_ret (v := .agg cur) (results_cell_row rfl _ _ w.heap.size 65 cur (0, 0) _ rfl (setRow_heap _ _ old cur _ _ HC.out.1) Try.underlying65 rfl (by rw [HC.out.2.2.2]; kernel_rfl)) rfl ?_
      refine ⟨cur, rfl, HC.out.2.2.2, HJ.out, hb.trans ?_⟩
      exact ⟨rfl, rfl, rfl, by simp, fun k hk => setRow_other _ _ _ _ (by omega)⟩

/-- A new array of sixteen words. -/
@[reducible] def zeros16 : Array Value := #[.int .u32 0, .int .u32 0, .int .u32 0, .int .u32 0, .int .u32 0, .int .u32 0, .int .u32 0, .int .u32 0, .int .u32 0, .int .u32 0, .int .u32 0, .int .u32 0, .int .u32 0, .int .u32 0, .int .u32 0, .int .u32 0]
theorem one_cells {cs : Array Value} (hs : cs.size = 16) (hc : ∀ j : Nat, j < 16 → cs[j]? = some (vw (tabP (wI j)))) : cs.all (·.oneCell') = true := by
  refine Array.all_eq_true_iff_forall_mem.2 fun v hv => ?_
  obtain ⟨j, hj, rfl⟩ := Array.mem_iff_getElem.1 hv
  have := hc j (by omega)
  rw [Array.getElem?_eq_getElem hj] at this
  injection this with e
  rw [e]; rfl
theorem wMod16 (b : UInt32) : (wMod b (wI 16)).toNat < 16 := by
  have h : ((wMod b (wI 16)).toNat : Int) = (b.toNat : Int).tmod 16 := (w_tmod_lit b 16 (by decide) (by decide)).symm
  rw [Int.tmod_eq_emod_of_nonneg (by omega)] at h
  omega

set_option maxHeartbeats 1000000 in
theorem add_calls (w : World) (c : UInt32) (a0 : Option Addr) (l : List UInt8) (c0 : Nat) (h0 : Row w a0 l c0) :
    Calls Try.prog 21 #[vw c, .slice a0 l.length c0] w fun e w' => e = .returned (vw (addP c l)) ∧ Below w.heap.size w w' := by
  have b0 := h0.len_le
  go_enter Try.func21, Try.ntmps21
  go_wp2_with (first
    | (go_at_call 52; refine (table_calls _).mono ?_; rintro e w' ⟨cs, rfl, hcs, hct, hb⟩; have HCS := Lib.hid hcs; have HCT := Lib.hid hct; clear hcs hct)
    | (refine wpList_store_row rfl 65 (.tmp 5) (.tmp 8) rfl w'.heap.size cs rfl rfl 65 _ (heap_alloc_new _ _) (by rw [HCS.out]; kernel_rfl) (by rw [HCS.out]; rfl) (one_cells HCS.out HCT.out) ?_; have hW := setRow_heap _ _ _ cs _ _ (heap_alloc_new w' (.cells zeros16 65)); have hB : Below w.heap.size w ((w'.alloc (.cells zeros16 65)).setRow w'.heap.size cs) := (hb.alloc hb.size _).trans ⟨rfl, rfl, rfl, by simp, fun k hk => setRow_other _ _ _ _ (by have := hb.size; omega)⟩; have HW := Lib.hid hW; clear hW))
  go_loopw [0, 13] (fun s i wx => ∃ (k : Nat) (d : UInt32), Hid (d = (l.take k).foldl byteP (wNot c)) ∧ k ≤ l.length ∧ i = .int .i64 k ∧ s = vw d ∧ Hid (wx.heap[w'.heap.size]? = some (.cells cs 65 (0, 0))) ∧ Below w.heap.size w wx) (fun _ i _ => l.length - (intOf i).toNat)
  case atStart => exact ⟨0, _, rfl, Nat.zero_le _, rfl, rfl, HW.out, hB⟩
  case round =>
    clear HW hB
    obtain ⟨k, d, HD, hk, rfl, rfl, HW, hB⟩ := hrel
    have r0 := h0.stay hB
    by_cases hlt : k < l.length
    · have i0 := r0.index bt.slice bt.sz k hlt
      have e0 := r0.cell k hlt
      go_wp2
      go_loopw [0, 21] (fun s i wx => ∃ (j : Nat) (b : UInt32), Hid (b = (if j = 0 then wXor d (wOfB l[k]) else if j = 1 then halfP (wXor d (wOfB l[k])) else byteP d l[k])) ∧ j ≤ 2 ∧ i = .int .i64 j ∧ s = vw b ∧ wx = wr) (fun _ i _ => 2 - (intOf i).toNat)
      case atStart => exact ⟨0, _, rfl, by omega, rfl, rfl, rfl⟩
      case round =>
        clear i0 e0
        obtain ⟨j, b, HB, hj, rfl, rfl, rfl⟩ := hrel
        by_cases hjl : j < 2
        · have hm := wMod16 b
          have hc : wr.cell? ⟨w'.heap.size, (wMod b (wI 16)).toNat, none⟩ = some (vw (tabP (wMod b (wI 16)))) := by
            rw [cell_of_row _ _ _ _ _ _ HW.out, HCT.out _ hm]
            rw [show wI (wMod b (wI 16)).toNat = wMod b (wI 16) from UInt32.ofNat_toNat]
          go_wp2
          go_roundw
          case rel =>
            refine ⟨j + 1, halfP b, ?_, by omega, by go_num, rfl, trivial⟩
            rw [Hid, HB.out]
            match j, hjl with
            | 0, _ => rfl
            | 1, _ => rfl
          case measure => simp [intOf]; omega
        · have hj2 : j = 2 := by omega
          have HB2 : Hid (b = byteP d l[k]) := by rw [Hid, HB.out, hj2]; rfl
          clear HB hj2
          go_wp2
          go_roundw
          case rel => exact ⟨k + 1, b, by rw [Hid, ← take_snoc l k hlt, List.foldl_append, ← HD.out]; exact HB2.out, by omega, by go_num, rfl, HW, hB⟩
          case measure => simp [intOf]; omega
    · have hk2 : k = l.length := by omega
      have HD2 : Hid (d = l.foldl byteP (wNot c)) := by rw [Hid, HD.out, hk2, List.take_length]
      clear HD hk2
      go_wp2
      go_ret
      exact ⟨ret_int (by rw [HD2.out]; rfl), hB⟩

theorem sum_calls (w : World) (a0 : Option Addr) (l : List UInt8) (c0 : Nat) (h0 : Row w a0 l c0) :
    Calls Try.prog 19 #[.slice a0 l.length c0] w fun e w' => e = .returned (vw (addP 0 l)) ∧ Below w.heap.size w w' := by
  go_enter Try.func19, Try.ntmps19
  go_wp2_with (go_at_call 21; refine (add_calls _ 0 _ _ _ h0).mono ?_; rintro e w' ⟨rfl, hb⟩)
  go_ret
  exact ⟨rfl, hb⟩
end Go.Proofs.Ytbglmglgaobjmaa
