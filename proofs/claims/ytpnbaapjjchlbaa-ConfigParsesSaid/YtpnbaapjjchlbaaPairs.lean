/- region.pairs: its iterator; region.All: walked. -/
import Derived.Test.YtpnbaapjjchlbaaValid
import Derived.RangeFuncNested
import Derived.RangeFuncBound
import Derived.RangeFuncCalls
import Derived.RangeFuncLeaves
import Derived.Shelf.Abstract
import Derived.Shelf.RegionOpen
import Derived.OwnWalkIn
import Derived.TacticsInMore
import Derived.LoopNIn
import Derived.LoopIn
namespace Go.Cit
open Go Go.RowKit

/-- What holds cells stays as it is. -/
structure KCells (W W' : World) : Prop where
  size : W.heap.size ≤ W'.heap.size
  cells : ∀ (k : Nat) (C : Array Value) (T : TypeId) (fr : Nat × Nat), W.heap[k]? = some (.cells C T fr) → W'.heap[k]? = some (.cells C T fr)
theorem KCells.refl (W : World) : KCells W W := ⟨Nat.le_refl _, fun _ _ _ _ h => h⟩
theorem KCells.trans {A B C : World} (h : KCells A B) (k : KCells B C) : KCells A C := ⟨Nat.le_trans h.size k.size, fun _ _ _ _ x => k.cells _ _ _ _ (h.cells _ _ _ _ x)⟩
theorem KCells.of {A B : World} (h : Below A.heap.size A B) : KCells A B := ⟨h.size, fun k _ _ _ x => (h.block k (Array.getElem?_eq_some_iff.1 x).1).trans x⟩
theorem KCells.alloc (W : World) (o : Obj) : KCells W (W.alloc o) := .of ((Below.refl _ _).alloc (Nat.le_refl _) _)
theorem KCells.put {w W : World} {l : Nat} {o o' : Obj} (h : W.heap[l]? = some o) (hc : o.isCells = false) : KCells W (W.putObj l o') := by
  refine ⟨by simp, fun k C T fr x => ?_⟩
  by_cases e : k = l
  · subst e; rw [h] at x; cases x; cases hc
  · exact (World.putObj_heap_other e).trans x
theorem KCells.cell {A B : World} (h : KCells A B) {p : Addr} {v : Value} (hp : A.cell? p = some v) : B.cell? p = some v := by
  unfold World.cell? at hp ⊢
  split at hp
  · rename_i C e fr hk
    rw [h.cells _ _ _ _ hk]; exact hp
  · exact absurd hp (by simp)
theorem Vec.kc {α : Type} {f : α → List Value} {n : Nat} {w w' : World} {a : Option Addr} {l : List α} {c : Nat} (h : Vec f n w a l c) (hf : ∀ x, (f x).length = n) (k : KCells w w') : Vec f n w' a l c := by
  refine ⟨h.le, h.top, h.nil, h.spot, fun i hi j hj => ?_⟩
  have e := h.cell i hi j hj
  have hj' : j < (f l[i]).length := by rw [hf]; exact hj
  rw [List.getElem?_eq_getElem hj'] at e ⊢
  exact k.cell e
theorem Vec.from_ {P : Program} {T E : TypeId} {n by_ : Nat} {z : Value} {α : Type} {f : α → List Value} (hE : ElemType P T E n by_ z) {w : World} {a : Option Addr} {cap : Nat} {l : List α} (h : Vec f n w a l cap) (lo : Nat) (h1 : lo ≤ l.length) : ∃ a' m cap', m = l.drop lo ∧
    (∀ w, (Instr.sliceAt T (.slice a l.length cap) (some (.int .i64 (lo : Int))) none none).run P w = .ok (.slice a' m.length cap') w) ∧ Vec f n w a' m cap' := by
  have hT := hE.slice
  have he : P.elem T = E := by simp [Program.elem, hT]
  have hle := h.le
  have htop := h.top
  have hlen : (l.drop lo).length = l.length - lo := List.length_drop
  refine ⟨if cap = lo then a else a.map (·.add (lo * n)), _, cap - lo, rfl, fun w => ?_, by omega, by omega, fun hn => ?_, fun hne => ?_, fun i hi j hj => ?_⟩
  · rw [run_sliceAt_slice _ _ _ _ _ _ (by rw [he]; exact hT), run_slice_l w T a _ _ (by rw [he]; exact hT) .i64 lo (by omega) (by omega), he, hE.sz]
    simp [Result.andThen, sliced]
  · split at hn
    · omega
    · have := h.nil (by simpa using hn); omega
  · have hlt : lo < l.length := by
      rcases Nat.lt_or_ge lo l.length with h | h
      · exact h
      · exact absurd (List.eq_nil_of_length_eq_zero (by omega)) hne
    obtain ⟨b, off, rfl⟩ := h.spot (by intro h0; simp [h0] at hlt)
    rw [if_neg (by omega)]
    refine ⟨b, off + lo * n, ?_⟩
    by_cases h0 : lo * n = 0
    · simp [Addr.add, h0]
    · simp [Addr.add, h0]
  · have hl : lo + i < l.length := by omega
    obtain ⟨b, off, rfl⟩ := h.spot (by intro h0; simp [h0] at hl)
    rw [if_neg (by omega)]
    have hc := h.cell (lo + i) hl j hj
    have e : ad (Option.map (·.add (lo * n)) (some (⟨b, off, none⟩ : Addr))) (i * n + j) = ad (some ⟨b, off, none⟩) ((lo + i) * n + j) := by
      rw [Nat.add_mul]
      by_cases h0 : lo * n = 0
      · simp [Addr.add, ad, h0]
      · simp [Addr.add, ad, h0, Nat.add_assoc]
    rw [e, hc]
    simp
end Go.Cit
namespace Go.Proofs.Ytpnbaapjjchlbaa
open Go Go.RowKit Go.Cit Go.Shelf
attribute [local go_sem] Oper.semAt_some

def pairsL : List Reg → List (Reg × Reg)
  | [] => []
  | a :: r => r.map (fun b => (a, b)) ++ pairsL r
theorem pairsL_drop (l : List Reg) (k : Nat) (h : k < l.length) : pairsL (l.drop k) = (l.drop (k + 1)).map (fun b => (l[k], b)) ++ pairsL (l.drop (k + 1)) := by
  rw [List.drop_eq_getElem_cons h]; rfl

theorem regs_cells {w w' : World} {a : Option Addr} {l : List Reg} {c : Nat} (h : Vec cReg 2 w a l c) (hb : KCells w w') (k : Nat) (hk : k < l.length) :
    w'.cell? (ad a (k * 2)) = some (.int .i64 l[k].base.1) ∧ w'.cell? ⟨(ad a (k * 2)).block, (ad a (k * 2)).off + 1, none⟩ = some (.int .i64 l[k].size.1) := by
  have h := h.kc cReg_len hb
  exact ⟨h.field0 k hk (by decide) rfl, h.field k hk 1 (by decide) rfl⟩

set_option maxRecDepth 100000 in
set_option maxHeartbeats 2000000 in
theorem pairs1_in (m L Bn : Nat) (a : Option Addr) (l : List Reg) (c : Nat) (J Jx : List (Reg × Reg) → World → Prop) (hJ : ∀ s W o, J s W → J s (W.alloc o))
    (hY : ∀ pre x W, J pre W → pre.length < (pairsL l).length → YieldAt Fence.wide (m - 1) Try.prog L #[.agg #[.int .i64 x.1.base.1, .int .i64 x.1.size.1], .agg #[.int .i64 x.2.base.1, .int .i64 x.2.size.1]] W fun e W' =>
      (e = .returned (.bool true) ∧ J (pre ++ [x]) W' ∧ KCells W W') ∨ (e = .returned (.bool false) ∧ Jx (pre ++ [x]) W'))
    (W : World) (hc : W.cell? ⟨Bn, 0, none⟩ = some (.slice a l.length c)) (hv : Vec cReg 2 W a l c) (h0 : J [] W) :
    CallsIn Fence.wide m Try.prog 136 #[.func (.yield L) #[] #[], .pointer (some ⟨Bn, 0, none⟩)] W fun e W' => (∃ v, e = .returned v) ∧
      ((∃ ys, ys = pairsL l ∧ J ys W') ∨ (∃ pre, pre <+: pairsL l ∧ Jx pre W')) := by
  have hlen := hv.len_le
  have HV := Lib.hid hv
  have HJ := Lib.hid hJ
  have HY := Lib.hid hY
  have HC := Lib.hid hc
  clear hJ hY hv
  refine callsIn_of_wp Try.func136 rfl trivial ?_ rfl
  simp only [Try.ntmps136, List.size_toArray, List.length_cons, List.length_nil, Nat.reduceAdd, Nat.reduceSub, Array.replicate_succ, Array.replicate_zero, List.push_toArray, List.append_toArray, List.nil_append, List.cons_append]
  gi_wp2
  gi_loopw [9] (fun s wr => ∃ (k : Nat) (pre : List (Reg × Reg)), s = .int .i64 k ∧ k ≤ l.length ∧ Hid (pre ++ pairsL (l.drop k) = pairsL l) ∧ KCells W wr ∧ J pre wr) (fun s _ => l.length - (intOf s).toNat)
  case atStart => exact ⟨0, [], rfl, Nat.zero_le _, rfl, KCells.refl _, h0⟩
  case round =>
    obtain ⟨k, pre, rfl, hk, HP, hK, hJs⟩ := hrel
    by_cases hlt : k < l.length
    · have i0 := HV.out.index etR k hlt
      obtain ⟨d0, d1⟩ := regs_cells HV.out hK k hlt
      have hcc := hK.cell HC.out
      have hbn : Bn < wr.heap.size := World.block_lt_of_cell? wr _ hcc
      have hbn2 : Bn ≠ wr.heap.size := by omega
      obtain ⟨a2, m2, c2, hm2, hrun2, v2⟩ := HV.out.from_ etR (k + 1) hlt
      rw [show ((k + 1 : Nat) : Int) = (k : Int) + 1 from rfl] at hrun2
      have HPD := Lib.hid (pairsL_drop l k hlt)
      obtain ⟨x, hx⟩ : ∃ x : Reg, Hid (x = l[k]) := ⟨l[k], rfl⟩
      rw [← hx.out] at d0 d1 HPD
      have HM2 := Lib.hid hm2
      have HV2 := Lib.hid v2
      have hl2 := v2.len_le
      obtain ⟨wk, hwk⟩ : ∃ wk, wk = wr.alloc (.cells #[.int .i64 x.base.1, .int .i64 x.size.1] 40) := ⟨_, rfl⟩
      have hKk : KCells W wk := by rw [hwk]; exact hK.trans (KCells.alloc _ _)
      have hJk : J pre wk := by rw [hwk]; exact HJ.out _ _ _ hJs
      have hcx := box2 wr (.int .i64 x.base.1) (.int .i64 x.size.1) 40
      rw [← hwk] at hcx
      have hcc2 : wk.cell? ⟨Bn, 0, none⟩ = some (.slice a l.length c) := by rw [hwk]; exact keepA _ hcc
      have HKk := Lib.hid (And.intro hKk (And.intro hJk hcx))
      clear hm2 v2 hKk hJk hcx
      gi_wp2
      rw [← hwk]
      clear hwk
      gi_loopw [19] (fun s wx => ∃ (m : Nat) (pre' : List (Reg × Reg)), s = .int .i64 m ∧ m ≤ m2.length ∧ Hid (pre' ++ ((m2.drop m).map (fun b => (x, b)) ++ pairsL (l.drop (k + 1))) = pairsL l) ∧ KCells wk wx ∧ J pre' wx) (fun s _ => m2.length - (intOf s).toNat)
      case atStart => exact ⟨0, pre, rfl, Nat.zero_le _, by rw [Hid, List.drop_zero, HM2.out, ← HPD.out]; exact HP.out, KCells.refl _, HKk.out.2.1⟩
      case round =>
        obtain ⟨t, pre', rfl, ht, HP2, hK2, hJ2⟩ := hrel
        by_cases hlt2 : t < m2.length
        · have j0 := HV2.out.index etR t hlt2
          obtain ⟨e0, e1⟩ := regs_cells HV2.out (HKk.out.1.trans hK2) t hlt2
          have x0 := hK2.cell HKk.out.2.2.1
          have x1 := hK2.cell HKk.out.2.2.2
          obtain ⟨y, hy⟩ : ∃ y : Reg, Hid (y = m2[t]) := ⟨m2[t], rfl⟩
          rw [← hy.out] at e0 e1
          have HP3 : Hid ((pre' ++ [(x, y)]) ++ ((m2.drop (t + 1)).map (fun b => (x, b)) ++ pairsL (l.drop (k + 1))) = pairsL l) := by
            rw [Hid, ← HP2.out, List.drop_eq_getElem_cons hlt2, hy.out, List.map_cons, List.append_assoc]; rfl
          have HLN : Hid (pre'.length < (pairsL l).length) := by rw [Hid, ← HP3.out]; simp
          have HPX : Hid ((pre' ++ [(x, y)]) <+: pairsL l) := ⟨_, HP3.out⟩
          have hKa := KCells.alloc wr (.cells #[.int .i64 y.base.1, .int .i64 y.size.1] 40)
          have x0' := keepA (.cells #[.int .i64 y.base.1, .int .i64 y.size.1] 40) x0
          have x1' := keepA (.cells #[.int .i64 y.base.1, .int .i64 y.size.1] 40) x1
          obtain ⟨fn, tmps, assign, body, hyy, hR⟩ := HY.out pre' (x, y) (wr.alloc (.cells #[.int .i64 y.base.1, .int .i64 y.size.1] 40)) (HJ.out _ _ _ hJ2) HLN.out
          dsimp only at hyy
          have HKa := Lib.hid (hK2.trans hKa)
          clear hKa hK2 hJ2
          gi_wp2
          refine ⟨fun h => (by cases h), hR.mono ?_⟩
          rintro e W3 (⟨rfl, hJ3, hk3⟩ | ⟨rfl, hJx3⟩)
          · gi_wp2
            go_roundw
            case rel => exact ⟨t + 1, pre' ++ [(x, y)], by go_num, by omega, HP3.out, HKa.out.trans hk3, hJ3⟩
            case measure => simp [intOf]; omega
          · gi_wp2
            refine bodyPost_ret (results_none rfl _ _ _) rfl ?_
            exact ⟨⟨_, rfl⟩, .inr ⟨pre' ++ [(x, y)], HPX.out, hJx3⟩⟩
        · have ht2 : t = m2.length := by omega
          have HP3 : Hid (pre' ++ pairsL (l.drop (k + 1)) = pairsL l) := by
            have := HP2.out
            rw [ht2, List.drop_length] at this
            rw [Hid]
            simpa using this
          clear ht2
          gi_wp2
          go_roundw
          case rel => exact ⟨k + 1, pre', by go_num, by omega, HP3.out, HKk.out.1.trans hK2, hJ2⟩
          case measure => simp [intOf]; omega
    · have hk2 : k = l.length := by omega
      have HE : Hid (pre = pairsL l) := by
        have := HP.out
        rw [hk2, List.drop_length] at this
        rw [Hid]
        simpa [pairsL] using this
      clear hk2
      gi_wp2
      go_end0
      exact ⟨⟨_, rfl⟩, .inl ⟨pre, HE.out, hJs⟩⟩

theorem boxed_stay {W W' : World} {B : Nat} {t : TypeId} {v : Value} (h : Boxed W B t v) (hb : Below W.heap.size W W') : Boxed W' B t v := (hb.block B h.lt).trans h
theorem heap_own {X Y : World} {row : Option Nat} {k : Nat} {C : Array Value} {T : TypeId} {fr : Nat × Nat} (h : X.heap[k]? = some (.cells C T fr)) (hg : X.grownBy Y row) (hr : ∀ r, row = some r → ∃ o : Obj, X.heap[r]? = some o ∧ o.isCells = false) : Y.heap[k]? = some (.cells C T fr) :=
  (hg.block k (Array.getElem?_eq_some_iff.1 h).1 (fun e => by obtain ⟨o, ho, hc⟩ := hr k e.symm; rw [h] at ho; cases ho; cases hc)).trans h
theorem pairs_calls (w : World) (a : Option Addr) (l : List Reg) (c : Nat) : Calls Try.prog 72 #[.slice a l.length c] w fun e w' =>
    e = .returned (.func (.func 136) #[] #[.pointer (some ⟨w.heap.size, 0, none⟩)]) ∧ w' = w.alloc (.cells #[.slice a l.length c] 48) := by
  go_enter Try.func72, Try.ntmps72
  go_wp2_with fail
  go_ret
  exact ⟨rfl, rfl⟩

/-- What the checks of a list of regions come to. -/
def regAll (l : List Reg) : Int := if l.all mayR then (if (pairsL l).all (fun p => apartR p.1 p.2) then 0 else 121) else 2
theorem pairs_stops (m : Nat) (Bn : Nat) (a : Option Addr) (l : List Reg) (c : Nat) (w : World) (hc : w.cell? ⟨Bn, 0, none⟩ = some (.slice a l.length c)) (hv : Vec cReg 2 w a l c) :
    SeqStopsK Fence.wide m Try.prog 136 #[.pointer (some ⟨Bn, 0, none⟩)] (fun x : Reg × Reg => #[.agg #[.int .i64 x.1.base.1, .int .i64 x.1.size.1], .agg #[.int .i64 x.2.base.1, .int .i64 x.2.size.1]]) KCells (fun ys => ys = pairsL l) (fun pre => pre <+: pairsL l) (pairsL l).length w :=
  fun L J Jx W hW hJ _ hY h0 => pairs1_in m L Bn a l c J Jx (fun s A o h => hJ s A _ none h (World.grownBy_alloc A o none) (fun r e => by cases e)) hY W (keep hW hc) (hv.stay cReg_len hW) h0

set_option maxRecDepth 100000 in
set_option maxHeartbeats 4000000 in
theorem rall_calls (w : World) (a : Option Addr) (l : List Reg) (c : Nat) (h : Vec cReg 2 w a l c) : Calls Try.prog 32 #[.slice a l.length c] w fun e w' => e = .returned (.int .i64 (regAll l)) ∧ Below w.heap.size w w' := by
  obtain ⟨R, HR⟩ : ∃ R, Hid (R = regAll l) := ⟨_, rfl⟩
  rw [← HR.out]
  have hlen := h.len_le
  have HH := Lib.hid h
  clear h
  refine (callsIn_wide (n := 6)).1 ?_
  refine callsIn_of_wp_marks Try.func32 rfl trivial ?_ rfl
  simp only [Try.ntmps32, List.size_toArray, List.length_cons, List.length_nil, Nat.reduceAdd, Nat.reduceSub, Array.replicate_succ, Array.replicate_zero, List.push_toArray, List.append_toArray, List.nil_append, List.cons_append]
  obtain ⟨w0, hw0⟩ : ∃ w0, w0 = w.alloc (.cells #[.int .i64 0] 33) := ⟨_, rfl⟩
  have hB0 : Below w.heap.size w w0 := by rw [hw0]; exact (Below.refl _ w).alloc (Nat.le_refl _) _
  have bR0 : Boxed w0 w.heap.size 33 (.int .i64 0) := by rw [hw0]; exact Boxed.new w _ _
  have hsz0 : w0.heap.size = w.heap.size + 1 := by rw [hw0]; simp
  have HV0 := Lib.hid (HH.out.stay cReg_len hB0)
  gi_wp2
  rw [← hw0]
  clear hw0
  gi_loopw [9] (fun s wr => ∃ k : Nat, s = .int .i64 k ∧ k ≤ l.length ∧ Hid ((l.take k).all mayR = true) ∧ Below w0.heap.size w0 wr) (fun s _ => l.length - (intOf s).toNat)
  case atStart => exact ⟨0, rfl, Nat.zero_le _, rfl, Below.refl _ _⟩
  case round =>
    obtain ⟨k, rfl, hk, ha, B⟩ := hrel
    by_cases hlt : k < l.length
    · have i0 := HV0.out.index etR k hlt
      obtain ⟨d0, d1⟩ := regs_cells HV0.out (KCells.of B) k hlt
      have HT := Lib.hid (all_take mayR l k hlt)
      have HNT := Lib.hid (all_not mayR l k hlt)
      obtain ⟨x, hx⟩ : ∃ x : Reg, Hid (x = l[k]) := ⟨l[k], rfl⟩
      rw [← hx.out] at d0 d1 HT HNT
      have HC := Lib.hid (fun w => rmay_calls w x)
      have HB : Hid (∀ C, Below w0.heap.size w0 (wr.alloc (.cells C 40))) := fun C => B.alloc B.size _
      have bR := bR0.kept (show w0.grownBy wr none from ⟨B.os, B.tape, B.output, B.size, fun k hk _ => B.block k hk⟩) (by simp)
      cases hq : mayR x with
      | true =>
        rw [hq] at HC
        have HA : Hid ((l.take (k + 1)).all mayR = true) := by rw [Hid, HT.out, ha.out, hq]; rfl
        clear hq
        gi_wp2_with (refine ⟨trivial, ?_⟩; gi_at_call 71; refine (callsIn_wide.2 (HC.out _)).mono ?_; rintro e w2 ⟨rfl, hb2⟩)
        go_roundw
        case rel => exact ⟨k + 1, by go_num, by omega, HA.out, (HB.out _).trans (hb2.mono (HB.out _).size)⟩
        case measure => simp [intOf]; omega
      | false =>
        rw [hq] at HC
        have HF : Hid (R = 2) := by rw [Hid, HR.out, regAll, HNT.out hq]; rfl
        clear hq
        have bRa := boxed_stay bR ((Below.refl _ wr).alloc (Nat.le_refl _) (.cells #[.int .i64 x.base.1, .int .i64 x.size.1] 40))
        clear bR
        gi_wp2_with (refine ⟨trivial, ?_⟩; gi_at_call 71; refine (callsIn_wide.2 (HC.out _)).mono ?_; rintro e w2 ⟨rfl, hb2⟩; have bR2 := boxed_stay bRa hb2; have cR := bR2.cell; have fR := bR2.frozen)
        refine ⟨.int .i64 2, ?_, ret_int HF.out.symm, ?_⟩
        · simp [results, Try.f32, go_sem, (bR2.set (.int .i64 2)).cell]
        · exact ((hB0.trans ((HB.out _).mono hB0.size)).trans (hb2.mono (by have := hB0.size; have := (HB.out #[.int .i64 x.base.1, .int .i64 x.size.1]).size; omega))).setCell (p := ⟨w.heap.size, 0, none⟩) (Nat.le_refl _) _
    · have hk2 : k = l.length := by omega
      have HA : Hid (l.all mayR = true) := by have := ha.out; rw [hk2, List.take_length] at this; exact this
      clear hk2
      gi_wp2_with (refine ⟨trivial, ?_⟩; gi_at_call 72; refine (callsIn_wide.2 (pairs_calls _ _ _ _)).mono ?_; rintro e w2 ⟨rfl, rfl⟩)
      have hBr : Below w.heap.size w wr := hB0.trans (B.mono hB0.size)
      have hB3 : Below w.heap.size w (wr.alloc (.cells #[.slice a l.length c] 48)) := hBr.alloc hBr.size _
      have hsz3 : (wr.alloc (.cells #[.slice a l.length c] 48)).heap.size = wr.heap.size + 1 := by simp
      have bR3 := boxed_stay (boxed_stay bR0 B) ((Below.refl _ wr).alloc (Nat.le_refl _) (.cells #[.slice a l.length c] 48))
      have hV3 := HH.out.stay cReg_len (hB3.mono (Nat.le_refl _))
      have hC3 : (wr.alloc (.cells #[.slice a l.length c] 48)).cell? ⟨wr.heap.size, 0, none⟩ = some (.slice a l.length c) := by rw [World.cell?, heap_alloc_new]; rfl
      obtain ⟨w3, hw3⟩ : ∃ w3, w3 = wr.alloc (.cells #[.slice a l.length c] 48) := ⟨_, rfl⟩
      have hlr := hBr.size
      rw [← hw3] at hB3 hsz3 bR3 hV3 hC3 ⊢
      clear hw3
      have HRA : Hid (R = (if (pairsL l).all (fun p => apartR p.1 p.2) then 0 else 121)) := by rw [Hid, HR.out, regAll, HA.out]; rfl
      refine wpIn_rangeFunc_ownH rfl (by decide) (gf := 136) (lb := #[.pointer (some ⟨wr.heap.size, 0, none⟩)]) rfl trivial (enters_of Try.func136 (by kernel_rfl) rfl)
        (pairs_stops (6 - 1) wr.heap.size a l c w3 hC3 hV3) (fun h k => KCells.trans h k) (fun W L o o' _ ho hc _ => KCells.put (w := W) ho hc) (Below.refl _ _) (fun _ => rfl)
        (fun pre W => ((∀ p ∈ pre, apartR p.1 p.2 = true) ∧ Boxed W w.heap.size 33 (.int .i64 0)) ∧ Below w.heap.size w W)
        (fun cd pre W => ((cd = .ret ∧ ∃ p ∈ pre, apartR p.1 p.2 = false) ∧ Boxed W w.heap.size 33 (.int .i64 121)) ∧ Below w.heap.size w W)
        (OwnFrom.and (OwnFrom.and (ownFrom_pure _ _) (Own.from (boxed_own _ _ _) _)) (ownFrom_below (Nat.le_refl _) hB3.size))
        (fun cd => OwnFrom.and (OwnFrom.and (ownFrom_pure _ _) (Own.from (boxed_own _ _ _) _)) (ownFrom_below (Nat.le_refl _) hB3.size))
        ⟨⟨fun p hp => by simp at hp, bR3⟩, hB3⟩
        (fun x a' W => ∃ Ba Bb, W.heap[Ba]? = some (.cells #[.int .i64 x.1.base.1, .int .i64 x.1.size.1] 40 (0, 0)) ∧ W.heap[Bb]? = some (.cells #[.int .i64 x.2.base.1, .int .i64 x.2.size.1] 40 (0, 0)) ∧
          a' = { tmps := #[.slice a l.length c, undef, .pointer (some ⟨w.heap.size, 0, none⟩), undef, u4, .pointer (some ⟨Ba, 0, none⟩), .pointer (some ⟨Bb, 0, none⟩), .slice a l.length c, .int .i64 l.length, .int .i64 k, .bool false, u11, u12, u13, u14, u15, u16, .slice a l.length c,
            .func (.func 136) #[] #[.pointer (some ⟨wr.heap.size, 0, none⟩)], .agg #[.int .i64 x.1.base.1, .int .i64 x.1.size.1], .agg #[.int .i64 x.2.base.1, .int .i64 x.2.size.1], undef, undef, undef, undef], defers := [] })
        (fun x a' _ X Y row hs hg hr => by obtain ⟨Ba, Bb, e1, e2, e3⟩ := hs; exact ⟨Ba, Bb, heap_own e1 hg (fun r e => (hr r e).2), heap_own e2 hg (fun r e => (hr r e).2), e3⟩)
        ?assign ?body ?done ?stop
      case assign =>
        rintro L pre x W K ⟨⟨hp, bR1⟩, hB1⟩ hK
        have hh1 := heap_alloc_new W (.cells #[.int .i64 x.1.base.1, .int .i64 x.1.size.1] 40)
        have hh2 := heap_alloc_new (W.alloc (.cells #[.int .i64 x.1.base.1, .int .i64 x.1.size.1] 40)) (.cells #[.int .i64 x.2.base.1, .int .i64 x.2.size.1] 40)
        have hh3 : ((W.alloc (.cells #[.int .i64 x.1.base.1, .int .i64 x.1.size.1] 40)).alloc (.cells #[.int .i64 x.2.base.1, .int .i64 x.2.size.1] 40)).heap[W.heap.size]? = some (.cells #[.int .i64 x.1.base.1, .int .i64 x.1.size.1] 40 (0, 0)) := (Below.heap_alloc _ _ _ (by simp)).trans hh1
        rw [World.size_alloc] at hh2
        have HH9 := Lib.hid (And.intro hh2 hh3)
        clear hh1 hh2 hh3
        gi_wp2
        exact hK _ _ (((KeepsOthers.alloc _ _).trans (KeepsOthers.alloc _ _)).from _) ((KCells.alloc _ _).trans (KCells.alloc _ _)) ⟨⟨hp, (bR1.alloc _).alloc _⟩, (hB1.alloc hB1.size _).alloc (by simp; have := hB1.size; omega) _⟩ ⟨_, _, HH9.out.2, HH9.out.1, rfl⟩
      case body =>
        rintro L pre x a' W hL ⟨r, hr⟩ ⟨⟨hp, bR1⟩, hB1⟩ ⟨Ba, Bb, hBa, hBb, rfl⟩ hlt2
        have a0 := cells_of hBa 0 rfl
        have a1 := cells_of hBa 1 rfl
        have b0 := cells_of hBb 0 rfl
        have b1 := cells_of hBb 1 rfl
        have HC := Lib.hid (rapart_calls W x.1 x.2)
        clear hBa hBb
        cases hq : apartR x.1 x.2 with
        | true =>
          rw [hq] at HC
          have HA2 : Hid (∀ p ∈ pre ++ [x], apartR p.1 p.2 = true) := fun p hp' => (List.mem_append.1 hp').elim (hp p) (fun e => by simp at e; subst e; exact hq)
          clear hq
          gi_wp2_with (refine ⟨trivial, ?_⟩; gi_at_call 73; refine (CallsIn.inRound L (callsIn_wide.2 HC.out)).mono ?_; rintro e w2 ⟨rfl, hb2⟩)
          exact ⟨⟨hb2.size, fun k o hk h0 ho => (hb2.block k (Array.getElem?_eq_some_iff.1 h0).1).trans h0⟩, KCells.of hb2, ⟨⟨HA2.out, boxed_stay bR1 hb2⟩, hB1.trans (hb2.mono hB1.size)⟩⟩
        | false =>
          rw [hq] at HC
          have HQ := Lib.hid hq
          clear hq
          gi_wp2_with (refine ⟨trivial, ?_⟩; gi_at_call 73; refine (CallsIn.inRound L (callsIn_wide.2 HC.out)).mono ?_; rintro e w2 ⟨rfl, hb2⟩; have bR2 := boxed_stay bR1 hb2; have cR := bR2.cell; have fR := bR2.frozen)
          exact ⟨(KeepsFrom.mk hb2.size fun k o hk h0 ho => (hb2.block k (Array.getElem?_eq_some_iff.1 h0).1).trans h0).trans ((KeepsOthers.setCell _ _ _).from _), ⟨⟨rfl, x, by simp, HQ.out⟩, bR2.set _⟩, (hB1.trans (hb2.mono hB1.size)).setCell (p := ⟨w.heap.size, 0, none⟩) (Nat.le_refl _) _⟩
      case done =>
        rintro D ys W hD rfl ⟨⟨hp, bR1⟩, hB1⟩ hK
        have cR := bR1.cell
        have fR := bR1.frozen
        have HF : Hid (R = 0) := by rw [Hid, HRA.out, if_pos (List.all_eq_true.2 hp)]
        gi_wp2
        have hK' := (KeepsOthers.setCell W ⟨w.heap.size, 0, none⟩ (.int .i64 0)).same D _ hK rfl
        refine ⟨by simp, .inl ⟨_, _, rfl, run_takeDeferred hK', ?_⟩⟩
        have hc5 := cell_kept (bR1.set (.int .i64 0)).cell (grownBy_putObj' _ D (.deferred none)) (fun r e => by cases e; exact ⟨_, hK', rfl⟩)
        refine ⟨.int .i64 0, ?_, ret_int HF.out.symm, (hB1.setCell (p := ⟨w.heap.size, 0, none⟩) (Nat.le_refl _) _).trans (belowK_b (w := w) (Nat.le_refl _) _ D _ _ (by omega) hK' rfl rfl)⟩
        simp [results, Try.f32, go_sem, hc5]
      case stop =>
        rintro D cd pre W hD hpre ⟨⟨⟨rfl, p, hp, hq⟩, bR1⟩, hB1⟩ hK
        have HF : Hid (R = 121) := by
          rw [Hid, HRA.out, if_neg]
          intro h
          have := List.all_eq_true.1 h p (hpre.subset hp)
          rw [hq] at this
          exact absurd this (by decide)
        gi_wp2
        refine ⟨by simp, .inl ⟨_, _, rfl, run_takeDeferred hK, ?_⟩⟩
        have hc5 := cell_kept bR1.cell (grownBy_putObj' _ D (.deferred none)) (fun r e => by cases e; exact ⟨_, hK, rfl⟩)
        refine ⟨.int .i64 121, ?_, ret_int HF.out.symm, hB1.trans (belowK_b (w := w) (Nat.le_refl _) W D _ _ (by omega) hK rfl rfl)⟩
        simp [results, Try.f32, go_sem, hc5]
end Go.Proofs.Ytpnbaapjjchlbaa
