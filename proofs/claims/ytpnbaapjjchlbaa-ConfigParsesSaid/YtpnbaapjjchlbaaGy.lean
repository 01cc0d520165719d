/- Texts of the proof, one behind the other: Chain, Print, PrintAll. No condition but those that each names. -/
import Derived.Test.YtpnbaapjjchlbaaGe
import Derived.Test.YtpnbaapjjchlbaaTwo
import Derived.Test.YtpnbaapjjchlbaaGx
import Derived.Test.YtpnbaapjjchlbaaCan
import Derived.Test.YtpnbaapjjchlbaaCfgLem
/- A region that draws its order, in which some operations, each behind the one before it, change the world (calls of methods of one thing); the others only read. No condition on the program. -/
namespace Go.Cit
open Go Go.RowKit

section
variable {P : Program} {ops : Array Oper} {Q : Exit → Act → World → Prop}
/-- So many of the chain are done. -/
def chainC (idx : List Nat) (St : Nat → World → Prop) (δ : Nat → Bool) (wx : World) : Prop := ∃ k, k ≤ idx.length ∧ (∀ j i, idx[j]? = some i → (δ i = true ↔ j < k)) ∧ St k wx
def ChainOp (P : Program) (ops : Array Oper) (X : Nat → Value) (idx : List Nat) (St : Nat → World → Prop) (n : Nat) (o : Oper) (a : Act) : Prop :=
  Wanted ops o a ∧
  ((∃ j, idx[j]? = some n ∧ ∀ wx, St j wx → GivesP P (fun v w' => St (j + 1) w' ∧ tyX X o v) ((execOp a.eval o).run P wx)) ∨
   (n ∉ idx ∧ ∀ k wx, k ≤ idx.length → St k wx → GivesP P (fun v w' => w' = wx ∧ tyX X o v) ((execOp a.eval o).run P wx)))
def chainB (ops : Array Oper) (idx : List Nat) : Bool := (List.range idx.length).all fun j => decide (idx.getD j 0 < ops.size) && (decide (j = 0) || needsB ops ops.size (idx.getD j 0) (idx.getD (j - 1) 0))
theorem chain_spec {idx : List Nat} (h : chainB ops idx = true) {j i : Nat} (hj : idx[j]? = some i) : i < ops.size ∧ ∀ j' i', j = j' + 1 → idx[j']? = some i' → needsB ops ops.size i i' = true := by
  have hlt := (List.getElem?_eq_some_iff.1 hj).1
  have h1 := List.all_eq_true.1 h j (List.mem_range.2 hlt)
  rw [List.getD_eq_getElem?_getD, hj] at h1
  simp only [Option.getD_some, Bool.and_eq_true, Bool.or_eq_true, decide_eq_true_eq] at h1
  refine ⟨h1.1, fun j' i' e hi' => ?_⟩
  subst e
  rcases h1.2 with h2 | h2
  · omega
  · rw [List.getD_eq_getElem?_getD, show j' + 1 - 1 = j' from rfl, hi'] at h2
    exact h2
theorem chain_lt {idx : List Nat} {m : Nat} (hs : shapeB ops m = true) (h : chainB ops idx = true) : ∀ (d j i i' : Nat), idx[j]? = some i → idx[j + d + 1]? = some i' → i < i'
  | 0, j, i, i', hi, hi' => needs_lt hs _ _ _ ((chain_spec h hi').2 j i rfl hi)
  | d + 1, j, i, i', hi, hi' => by
    have hlt := (List.getElem?_eq_some_iff.1 hi').1
    have hm : idx[j + d + 1]? = some idx[j + d + 1] := List.getElem?_eq_getElem (by omega)
    have h1 := chain_lt hs h d j i _ hi hm
    have h2 := needs_lt hs _ _ _ ((chain_spec h hi').2 (j + d + 1) _ rfl hm)
    omega
theorem chain_inj {idx : List Nat} {m : Nat} (hs : shapeB ops m = true) (h : chainB ops idx = true) {j j' i : Nat} (hi : idx[j]? = some i) (hi' : idx[j']? = some i) : j = j' := by
  rcases Nat.lt_trichotomy j j' with hlt | he | hlt
  · have := chain_lt hs h (j' - j - 1) j i i hi (by rw [show j + (j' - j - 1) + 1 = j' by omega]; exact hi'); omega
  · exact he
  · have := chain_lt hs h (j - j' - 1) j' i i hi' (by rw [show j' + (j - j' - 1) + 1 = j by omega]; exact hi); omega
theorem wp_region_chain {id : Nat} {a0 : Act} {w : World} (X Y : Nat → Value) (olds : List Nat) (idx : List Nat) (St : Nat → World → Prop)
    (hm : P.follows .mixedOrders = true) (hs : shapeB ops a0.tmps.size = true) (hc : chainB ops idx = true) (hY : OldIs a0 Y olds)
    (h0 : ∀ w', Below w.heap.size w w' → w'.heap = w.heap → St 0 w')
    (hop : OpsAll (fun n o => ∀ a, KnowsT ops X Y olds o a → ChainOp P ops X idx St n o a) ops.toList 0)
    (hend : ∀ a wx, St idx.length wx → SameBut ops a0 a → (∀ d, outB ops d = false → a.eval (.tmp d) = X d) → Q .normal a wx) :
    (Code.region id ops true).wp P Q a0 w := by
  refine wp_region_ph (chainC idx St) (fun _ _ _ => True) (fun d v _ => v = X d) hm hs (fun w' hb hh => ⟨0, Nat.zero_le _, fun j i _ => ⟨fun h => absurd h (by simp), fun h => absurd h (Nat.not_lt_zero _)⟩, h0 w' hb hh⟩) ?_ ?_ ?_
  · intro δ i j o v w1 w2 _ _ _ _ _ _ _ h
    rcases hd : o.dst with _ | d
    · exact tyP_none hd _ _
    · rw [tyP_some hd] at h ⊢; exact h
  · refine OpsAll.imp2 (fun n o hall => ?_) ops.toList 0 hop
    intro δ a wx hk
    have hkt : KnowsT ops X Y olds o a := ⟨fun d hd => hk.slot d hd, fun d hd => by
      rw [Bool.and_eq_true] at hd
      exact (hk.old d hd.1).trans (hY.get d hd.2)⟩
    obtain ⟨hw, h⟩ := hall a hkt
    refine ⟨hw, ?_⟩
    obtain ⟨k, hk1, hk2, hk3⟩ := hk.inv
    rcases h with ⟨j, hj, h⟩ | ⟨hn, h⟩
    · have hkj : k = j := by
        have h1 : ¬ j < k := fun hlt => by
          have := (hk2 j n hj).2 hlt
          rw [hk.yet] at this; exact absurd this (by decide)
        have h2 : j ≤ k := by
          rcases j with _ | j'
          · exact Nat.zero_le _
          · have hlt := (List.getElem?_eq_some_iff.1 hj).1
            have hj' : idx[j']? = some idx[j'] := List.getElem?_eq_getElem (by omega)
            have hneed := (chain_spec hc hj).2 j' _ rfl hj'
            have hdone := hk.next.needs ops.size n _ hneed (upd_same _ _)
            have hne := needs_lt hs _ _ _ hneed
            rw [upd_other _ (by omega)] at hdone
            exact (hk2 j' _ hj').1 hdone
        omega
      subst hkj
      refine gives_two (fun v w' hv => ⟨trivial, ⟨k + 1, ?_, fun j2 i2 hj2 => ?_, hv.1⟩, tyP_X hv.2⟩) (h wx hk3)
      · exact (List.getElem?_eq_some_iff.1 hj).1
      · by_cases he : n = i2
        · subst he
          rw [upd_same]
          have := chain_inj hs hc hj hj2
          subst this
          exact ⟨fun _ => Nat.lt_succ_self _, fun _ => rfl⟩
        · rw [upd_other _ he, hk2 j2 i2 hj2]
          have : j2 ≠ k := fun e => he (by rw [e, hj] at hj2; exact Option.some.inj hj2)
          omega
    · refine gives_two (fun v w' hv => ?_) (h k wx hk1 hk3)
      obtain ⟨rfl, hv⟩ := hv
      exact ⟨trivial, ⟨k, hk1, fun j2 i2 hj2 => by
        rw [upd_other _ (show n ≠ i2 from fun e => hn (by rw [e]; exact List.mem_of_getElem? hj2))]; exact hk2 j2 i2 hj2, hk3⟩, tyP_X hv⟩
  · intro δ a wx hall hcc hsame hslots
    obtain ⟨k, hk1, hk2, hk3⟩ := hcc
    have hkl : k = idx.length := by
      rcases Nat.lt_or_ge k idx.length with hlt | hge
      · have hi : idx[k]? = some idx[k] := List.getElem?_eq_getElem hlt
        have := (hk2 k _ hi).1 (hall _ (chain_spec hc hi).1)
        omega
      · omega
    subst hkl
    exact hend a wx hk3 hsame fun d hd => hslots d hd
end
theorem Save.off {b : Nat} {a a1 : Option Addr} {w wx w' : World} (h1 : Save (fun k => k ≠ b ∧ some k ≠ blk a) w wx) (hn : Near w.heap.size a a1) (h2 : Save (fun k => k ≠ b ∧ some k ≠ blk a1) wx w') : Save (fun k => k ≠ b ∧ some k ≠ blk a) w w' :=
  ⟨h2.os.trans h1.os, h2.tape.trans h1.tape, h2.output.trans h1.output, Nat.le_trans h1.size h2.size, fun k hk hs => (h2.block k (Nat.lt_of_lt_of_le hk h1.size) ⟨hs.1, fun e => by
    rcases hn k e.symm with h | h
    · exact hs.2 h.symm
    · omega⟩).trans (h1.block k hk hs)⟩
end Go.Cit

/- config.Print: walked, with its lists. -/
namespace Go.Proofs.Ytpnbaapjjchlbaa
open Go Go.RowKit Go.Cit

def int8 (n : Int) : List UInt8 := rowB (qOfI n) 8
theorem take_flat {α β : Type} (f : α → List β) (L : List α) (k : Nat) (h : k < L.length) : (L.take (k + 1)).flatMap f = (L.take k).flatMap f ++ f L[k] := by
  rw [List.take_succ_eq_append_getElem h, List.flatMap_append]; simp
theorem flat_le {α β : Type} (f : α → List β) (L : List α) (k : Nat) : ((L.take k).flatMap f).length ≤ (L.flatMap f).length := by
  conv => rhs; rw [← List.take_append_drop k L, List.flatMap_append, List.length_append]
  omega
def prw (x : Win) (b _ p : Nat) : Nat → Value
  | 3 => (.pointer (some ⟨b, 0, none⟩))
  | 4 => (.pointer (some ⟨p, 0, none⟩))
  | 5 => (.int .i64 x.len.1)
  | 6 => (.pointer (some ⟨b, 0, none⟩))
  | 7 => (.pointer (some ⟨p, 1, none⟩))
  | 8 => (.int .i64 x.part.1)
  | 9 => (.pointer (some ⟨b, 0, none⟩))
  | _ => undef
def prwo (_ : Win) (_ g p : Nat) : Nat → Value
  | 1 => (.pointer (some ⟨g, 0, none⟩))
  | 2 => (.pointer (some ⟨p, 0, none⟩))
  | _ => undef
def bWin (x : Win) : List UInt8 := (int8 x.len.1) ++ (int8 x.part.1)
set_option maxRecDepth 100000 in
set_option maxHeartbeats 4000000 in
theorem prw_calls {base w b a l c} (h : Wr base w b a l c 0) (hbase : base ≤ w.heap.size) (g : Nat) (hg : w.heap[g]? = some (.cells #[.pointer (some ⟨b, 0, none⟩)] 107 (0, 0))) (x : Win) (hroom : l.length + (8 + 8) ≤ 65536) :
    Calls Try.prog 90 (#[.agg #[.int .i64 x.len.1, .int .i64 x.part.1]] ++ #[.pointer (some ⟨g, 0, none⟩)]) w fun e w' => e = .returned (.tuple #[]) ∧ ∃ a' X c', Hid (X = l ++ bWin x) ∧ Wr base w' b a' X c' 0 ∧ Save (Off b a) w w' ∧ Near w.heap.size a a' := by
  show Calls Try.prog 90 #[.agg #[.int .i64 x.len.1, .int .i64 x.part.1], .pointer (some ⟨g, 0, none⟩)] w _
  obtain ⟨w1, hw1⟩ : ∃ w1, w1 = w.alloc (.cells #[.int .i64 x.len.1, .int .i64 x.part.1] 52) := ⟨_, rfl⟩
  obtain ⟨p, hp⟩ : ∃ p, p = w.heap.size := ⟨_, rfl⟩
  have hb1 : Below w.heap.size w w1 := by rw [hw1]; exact (Below.refl _ w).alloc (Nat.le_refl _) _
  have hpx : w1.heap[p]? = some (.cells #[.int .i64 x.len.1, .int .i64 x.part.1] 52 (0, 0)) := by rw [hw1, hp]; exact heap_alloc_new _ _
  have hW1 := h.stay hb1
  have hg1 := blk_stay hg hb1
  have hbase : base ≤ w1.heap.size := Nat.le_trans hbase hb1.size
  have hplt : p < w1.heap.size := (Array.getElem?_eq_some_iff.1 hpx).1
  have hglt : g < w1.heap.size := (Array.getElem?_eq_some_iff.1 hg1).1
  have hpo : Off b a p := ⟨by have := h.lt; omega, fun e => by have := (h.own.blk_ge e.symm).2; omega⟩
  have hgo : Off b a g := ⟨by rintro rfl; have := h.blk; rw [hg] at this; simp at this, fun e => own_ne h.own hg (by decide) e.symm⟩
  have St_save : ∀ {k wx}, (∃ a' X c', Hid (X = l ++ (List.take k [int8 x.len.1, int8 x.part.1]).flatten) ∧ Wr base wx b a' X c' 0 ∧ Save (Off b a) w1 wx ∧ Near w1.heap.size a a') → Save (Off b a) w1 wx := fun ⟨_, _, _, _, _, h, _⟩ => h
  have G0 : ∀ wx, Save (Off b a) w1 wx → wx.cell? ⟨g, 0, none⟩ = some (.pointer (some ⟨b, 0, none⟩)) := fun wx hs => (hs.cell (p := ⟨g, 0, none⟩) hglt hgo).trans (cells_of hg1 0 rfl)
  have C0 : ∀ wx, Save (Off b a) w1 wx → wx.cell? ⟨p, 0, none⟩ = some (.int .i64 x.len.1) := fun wx hs => (hs.cell (p := ⟨p, 0, none⟩) hplt hpo).trans (cells_of hpx 0 rfl)
  have C1 : ∀ wx, Save (Off b a) w1 wx → wx.cell? ⟨p, 1, none⟩ = some (.int .i64 x.part.1) := fun wx hs => (hs.cell (p := ⟨p, 1, none⟩) hplt hpo).trans (cells_of hpx 1 rfl)
  go_enter Try.func90, Try.ntmps90
  go_upto_region 1 with fail
  rw [← hw1, ← hp]
  refine wp_region_chain (prw x b g p) (prwo x b g p) [1, 2] [3, 6] (fun k wx => ∃ a' X c', Hid (X = l ++ (List.take k [int8 x.len.1, int8 x.part.1]).flatten) ∧ Wr base wx b a' X c' 0 ∧ Save (Off b a) w1 wx ∧ Near w1.heap.size a a') (by kernel_rfl) (by kernel_rfl) (by kernel_rfl) ⟨rfl, rfl, trivial⟩ (fun w' hb hh => ⟨a, l, c, by simp [Hid], hW1.stay hb, Save.of hb, Near.refl _ _⟩) ?_ ?_
  · refine opsAll_cons ?_ (opsAll_cons ?_ (opsAll_cons ?_ (opsAll_cons ?_ (opsAll_cons ?_ (opsAll_cons ?_ (opsAll_cons ?_ opsAll_nil))))))
    all_goals intro a hk
    · exact ⟨wanted_free rfl, .inr ⟨by decide, fun k wx hk9 hst => gp_load (.tmp 1) rfl (show a.eval (.tmp 1) = (.pointer (some ⟨g, 0, none⟩)) from hk.old 1 (by kernel_rfl)) (v := .pointer (some ⟨b, 0, none⟩)) (load_at (fun w => by kernel_rfl) (G0 wx (St_save hst))) ⟨rfl, rfl⟩⟩⟩
    · exact ⟨wanted_free rfl, .inr ⟨by decide, fun k wx hk9 hst => gp_field (.tmp 2) rfl (show a.eval (.tmp 2) = (.pointer (some ⟨p, 0, none⟩)) from hk.old 2 (by kernel_rfl)) (v := .pointer (some ⟨p, 0, none⟩)) (fun w => by kernel_rfl) ⟨rfl, rfl⟩⟩⟩
    · exact ⟨wanted_free rfl, .inr ⟨by decide, fun k wx hk9 hst => gp_load (.tmp 4) rfl (show a.eval (.tmp 4) = (.pointer (some ⟨p, 0, none⟩)) from hk.slot 4 (by kernel_rfl)) (v := .int .i64 x.len.1) (load_at (fun w => by kernel_rfl) (C0 wx (St_save hst))) ⟨rfl, rfl⟩⟩⟩
    · refine ⟨wanted_free rfl, .inl ⟨0, rfl, fun wx hst => ?_⟩⟩
      obtain ⟨a', X, c', HX, hW, hS, hN⟩ := hst
      have hlen : X.length = l.length + 0 := by rw [HX.out]; simp [int8, rowB_length, flagB, withB_length]
      refine gp_call rfl rfl #[.pointer (some ⟨b, 0, none⟩), .int .i64 x.len.1] (fun w => by kernel_rfl) (by simp only [List.map_toArray, List.map_cons, List.map_nil, (show a.eval (.tmp 3) = (.pointer (some ⟨b, 0, none⟩)) from hk.slot 3 (by kernel_rfl)), (show a.eval (.tmp 5) = (.int .i64 x.len.1) from hk.slot 5 (by kernel_rfl))]) ((wint_calls hW (Nat.le_trans hbase hS.size) x.len.1 (by omega)).mono ?_)
      rintro e w' ⟨a2, X2, c2, H2, rfl, hW2, hS2, hN2⟩
      exact ⟨_, rfl, ⟨a2, X2, c2, by rw [Hid, H2.out, HX.out]; simp [int8], hW2, Save.off hS hN hS2, hN.trans hN2 hS.size⟩, rfl⟩
    · exact ⟨wanted_free rfl, .inr ⟨by decide, fun k wx hk9 hst => gp_field (.tmp 2) rfl (show a.eval (.tmp 2) = (.pointer (some ⟨p, 0, none⟩)) from hk.old 2 (by kernel_rfl)) (v := .pointer (some ⟨p, 1, none⟩)) (fun w => by kernel_rfl) ⟨rfl, rfl⟩⟩⟩
    · exact ⟨wanted_free rfl, .inr ⟨by decide, fun k wx hk9 hst => gp_load (.tmp 7) rfl (show a.eval (.tmp 7) = (.pointer (some ⟨p, 1, none⟩)) from hk.slot 7 (by kernel_rfl)) (v := .int .i64 x.part.1) (load_at (fun w => by kernel_rfl) (C1 wx (St_save hst))) ⟨rfl, rfl⟩⟩⟩
    · refine ⟨wanted_free rfl, .inl ⟨1, rfl, fun wx hst => ?_⟩⟩
      obtain ⟨a', X, c', HX, hW, hS, hN⟩ := hst
      have hlen : X.length = l.length + 0 + 8 := by rw [HX.out]; simp [int8, rowB_length, flagB, withB_length]
      refine gp_call rfl rfl #[.pointer (some ⟨b, 0, none⟩), .int .i64 x.part.1] (fun w => by kernel_rfl) (by simp only [List.map_toArray, List.map_cons, List.map_nil, (show a.eval (.tmp 6) = (.pointer (some ⟨b, 0, none⟩)) from hk.slot 6 (by kernel_rfl)), (show a.eval (.tmp 8) = (.int .i64 x.part.1) from hk.slot 8 (by kernel_rfl))]) ((wint_calls hW (Nat.le_trans hbase hS.size) x.part.1 (by omega)).mono ?_)
      rintro e w' ⟨a2, X2, c2, H2, rfl, hW2, hS2, hN2⟩
      exact ⟨_, rfl, ⟨a2, X2, c2, by rw [Hid, H2.out, HX.out]; simp [int8], hW2, Save.off hS hN hS2, hN.trans hN2 hS.size⟩, rfl⟩
  intro a9 wz hst hsame hall
  obtain ⟨a', X, c', HX, hW, hS, hN⟩ := hst
  have he := act_same hsame [3, 4, 5, 6, 7, 8, 9] (by kernel_rfl)
  simp only [List.foldl_cons, List.foldl_nil] at he
  generalize a9.eval (.tmp 3) = y3 at he
  generalize a9.eval (.tmp 4) = y4 at he
  generalize a9.eval (.tmp 5) = y5 at he
  generalize a9.eval (.tmp 6) = y6 at he
  generalize a9.eval (.tmp 7) = y7 at he
  generalize a9.eval (.tmp 8) = y8 at he
  generalize a9.eval (.tmp 9) = y9 at he
  simp only [put_lit] at he
  dsimp only [List.set_cons_zero, List.set_cons_succ] at he
  subst he
  clear hsame hall
  have HZ : Hid (∃ a' X c', Hid (X = l ++ bWin x) ∧ Wr base wz b a' X c' 0 ∧ Save (Off b a) w wz ∧ Near w.heap.size a a') := ⟨a', X, c', by rw [Hid, HX.out]; simp [bWin], hW, (Save.of hb1).trans hS, fun g hg => (hN g hg).imp id (fun h => Nat.le_trans hb1.size h)⟩
  go_wp2_with fail
  go_end0
  exact ⟨rfl, HZ.out⟩
set_option maxRecDepth 100000 in
set_option maxHeartbeats 4000000 in
theorem listW_calls {base w b a l c} (h : Wr base w b a l c 0) (hbase : base ≤ w.heap.size) (g : Nat) (hg : w.heap[g]? = some (.cells #[.pointer (some ⟨b, 0, none⟩)] 107 (0, 0))) {w0 : World} (hOld : Below w0.heap.size w0 w) (hB0 : w0.heap.size ≤ base) {a1 : Option Addr} {L : List Win} {c1 : Nat} (hv : Vec cWin 2 w0 a1 L c1) (hroom : l.length + 8 + (L.flatMap bWin).length ≤ 65536) :
    Calls Try.prog 89 #[.pointer (some ⟨b, 0, none⟩), .slice a1 L.length c1, .func (.func 90) #[] #[.pointer (some ⟨g, 0, none⟩)]] w fun e w' => e = .returned (.tuple #[]) ∧ ∃ a' X c', Hid (X = l ++ (int8 L.length ++ L.flatMap bWin)) ∧ Wr base w' b a' X c' 0 ∧ Save (Off b a) w w' ∧ Near w.heap.size a a' := by
  have hBel : ∀ k, k < w0.heap.size → Off b a k := fun k hk => ⟨by have := h.ge; omega, fun e => by have := (h.own.blk_ge e.symm).1; omega⟩
  have hgo : Off b a g := ⟨by rintro rfl; have := h.blk; rw [hg] at this; simp at this, fun e => own_ne h.own hg (by decide) e.symm⟩
  have hglt : g < w.heap.size := (Array.getElem?_eq_some_iff.1 hg).1
  have hln := hv.len_le
  have HH := Lib.hid (And.intro h (And.intro hg hOld))
  have hK := wint_calls h hbase (L.length : Int) (by omega)
  have HK := Lib.hid hK
  have HV := Lib.hid hv
  clear h hg hK
  go_enter Try.func89, Try.ntmps89
  go_wp2_with fail
  refine (HK.out).mono ?_
  rintro e w1 ⟨a2, X2, c2, H2, rfl, hW2, hS2, hN2⟩
  have HW2 := Lib.hid (And.intro hW2 (And.intro hS2 hN2))
  have H2 : Hid (X2 = l ++ int8 L.length) := H2
  clear hW2 hS2 hN2 HK
  go_wp2_with fail
  go_loopw [14] (fun i wr => ∃ (k : Nat) (a' : Option Addr) (X : List UInt8) (c' : Nat), i = .int .i64 (k : Int) ∧ k ≤ L.length ∧ Hid (X = l ++ (int8 L.length ++ (L.take k).flatMap bWin)) ∧ Wr base wr b a' X c' 0 ∧ Save (Off b a) w wr ∧ Near w.heap.size a a') (fun i _ => L.length - (intOf i).toNat)
  case atStart => exact ⟨0, a2, X2, c2, rfl, Nat.zero_le _, by rw [Hid, H2.out]; simp, HW2.out.1, HW2.out.2.1, HW2.out.2.2⟩
  case round =>
    obtain ⟨k, a3, X3, c3, rfl, hk, H3, hW3, hS3, hN3⟩ := hrel
    have HW3 := Lib.hid (And.intro hW3 (And.intro hS3 hN3))
    by_cases hlt : k < L.length
    · have hB3 : Below w0.heap.size w0 wr := HH.out.2.2.trans (hS3.below HH.out.2.2.size hBel)
      have i0 := HV.out.index etW k hlt
      obtain ⟨u0, u1⟩ := win_cells HV.out hB3 k hlt
      have HS := Lib.hid (take_flat bWin L k hlt)
      have hfl := flat_le bWin L (k + 1)
      rw [HS.out] at hfl
      simp only [List.length_append] at hfl
      have hl3 : X3.length = l.length + 8 + ((L.take k).flatMap bWin).length := by rw [H3.out]; simp [int8, rowB_length]; omega
      obtain ⟨x, hx⟩ : ∃ x, Hid (x = L[k]) := ⟨L[k], rfl⟩
      rw [← hx.out] at u0 u1 HS hfl
      obtain ⟨wb, hwb⟩ : ∃ wb, wb = wr.alloc (.cells #[.int .i64 x.len.1, .int .i64 x.part.1] 52) := ⟨_, rfl⟩
      have hbb : Below wr.heap.size wr wb := by rw [hwb]; exact (Below.refl _ _).alloc (Nat.le_refl _) _
      have hgb : wb.heap[g]? = some (.cells #[.pointer (some ⟨b, 0, none⟩)] 107 (0, 0)) := blk_stay ((hS3.block g hglt hgo).trans HH.out.2.1) hbb
      have hbs : base ≤ wb.heap.size := Nat.le_trans hbase (Nat.le_trans hS3.size hbb.size)
      have hbl : (bWin x).length = 8 + 8 := by simp [bWin, int8, rowB_length, flagB, withB_length] <;> omega
      have HKC := Lib.hid (prw_calls (hW3.stay hbb) hbs g hgb x (by omega))
      have HBB := Lib.hid hbb
      clear hW3 hS3 hN3 hB3 hbb hgb hbs hfl
      go_wp2_with fail
      rw [← hwb]
      clear hwb
      refine (HKC.out).mono ?_
      rintro e w5 ⟨rfl, a5, X5, c5, H5, hW5, hS5, hN5⟩
      have HW5 := Lib.hid (And.intro hW5 (And.intro (Save.off HW3.out.2.1 HW3.out.2.2 ((Save.of HBB.out).trans hS5)) (HW3.out.2.2.trans (fun g hg => (hN5 g hg).imp id (fun h => Nat.le_trans HBB.out.size h)) HW3.out.2.1.size)))
      have HN5 : Hid (X5 = l ++ (int8 L.length ++ (L.take (k + 1)).flatMap bWin)) := by rw [Hid, H5.out, H3.out, HS.out]; simp
      clear hW5 hS5 hN5 HKC u0 u1 i0
      go_wp2_with fail
      go_roundw
      case rel => exact ⟨k + 1, a5, X5, c5, by go_num, by omega, HN5.out, HW5.out.1, HW5.out.2.1, HW5.out.2.2⟩
      case measure => simp [intOf]; omega
    · have hk2 : k = L.length := by omega
      have HN : Hid (X3 = l ++ (int8 L.length ++ L.flatMap bWin)) := by rw [Hid, H3.out, hk2, List.take_length]
      clear hW3 hS3 hN3 hk2
      go_wp2_with fail
      go_end0
      exact ⟨rfl, a3, X3, c3, HN.out, HW3.out.1, HW3.out.2.1, HW3.out.2.2⟩
def prp (x : PtV) (b _ p : Nat) : Nat → Value
  | 3 => (.pointer (some ⟨b, 0, none⟩))
  | 4 => (.pointer (some ⟨p, 0, none⟩))
  | 5 => (.int .i64 x.id.1)
  | 6 => (.pointer (some ⟨b, 0, none⟩))
  | 7 => (.pointer (some ⟨p, 1, none⟩))
  | 8 => (.pointer (some ⟨p, 1, none⟩))
  | 9 => (.int .i64 x.reg.base.1)
  | 10 => (.pointer (some ⟨b, 0, none⟩))
  | 11 => (.pointer (some ⟨p, 1, none⟩))
  | 12 => (.pointer (some ⟨p, 2, none⟩))
  | 13 => (.int .i64 x.reg.size.1)
  | 14 => (.pointer (some ⟨b, 0, none⟩))
  | 15 => (.pointer (some ⟨p, 3, none⟩))
  | 16 => (.bool x.keep)
  | 17 => (.pointer (some ⟨b, 0, none⟩))
  | 18 => (.pointer (some ⟨p, 4, none⟩))
  | 19 => (.slice x.a x.img.length x.c)
  | 20 => (.pointer (some ⟨b, 0, none⟩))
  | _ => undef
def prpo (_ : PtV) (_ g p : Nat) : Nat → Value
  | 1 => (.pointer (some ⟨g, 0, none⟩))
  | 2 => (.pointer (some ⟨p, 0, none⟩))
  | _ => undef
def bPtV (x : PtV) : List UInt8 := (int8 x.id.1) ++ (int8 x.reg.base.1) ++ (int8 x.reg.size.1) ++ (flagB x.keep) ++ (withB x.img)
set_option maxRecDepth 100000 in
set_option maxHeartbeats 4000000 in
theorem prp_calls {base w b a l c} (h : Wr base w b a l c 0) (hbase : base ≤ w.heap.size) (g : Nat) (hg : w.heap[g]? = some (.cells #[.pointer (some ⟨b, 0, none⟩)] 107 (0, 0))) (x : PtV) {w0 : World} (hOld : Below w0.heap.size w0 w) (hR : Row w0 x.a x.img x.c) (hB0 : w0.heap.size ≤ base) (hroom : l.length + (8 + 8 + 8 + 1 + (x.img.length + 4)) ≤ 65536) :
    Calls Try.prog 93 (#[.agg #[.int .i64 x.id.1, .int .i64 x.reg.base.1, .int .i64 x.reg.size.1, .bool x.keep, .slice x.a x.img.length x.c]] ++ #[.pointer (some ⟨g, 0, none⟩)]) w fun e w' => e = .returned (.tuple #[]) ∧ ∃ a' X c', Hid (X = l ++ bPtV x) ∧ Wr base w' b a' X c' 0 ∧ Save (Off b a) w w' ∧ Near w.heap.size a a' := by
  show Calls Try.prog 93 #[.agg #[.int .i64 x.id.1, .int .i64 x.reg.base.1, .int .i64 x.reg.size.1, .bool x.keep, .slice x.a x.img.length x.c], .pointer (some ⟨g, 0, none⟩)] w _
  obtain ⟨w1, hw1⟩ : ∃ w1, w1 = w.alloc (.cells #[.int .i64 x.id.1, .int .i64 x.reg.base.1, .int .i64 x.reg.size.1, .bool x.keep, .slice x.a x.img.length x.c] 43) := ⟨_, rfl⟩
  obtain ⟨p, hp⟩ : ∃ p, p = w.heap.size := ⟨_, rfl⟩
  have hb1 : Below w.heap.size w w1 := by rw [hw1]; exact (Below.refl _ w).alloc (Nat.le_refl _) _
  have hpx : w1.heap[p]? = some (.cells #[.int .i64 x.id.1, .int .i64 x.reg.base.1, .int .i64 x.reg.size.1, .bool x.keep, .slice x.a x.img.length x.c] 43 (0, 0)) := by rw [hw1, hp]; exact heap_alloc_new _ _
  have hW1 := h.stay hb1
  have hg1 := blk_stay hg hb1
  have hbase : base ≤ w1.heap.size := Nat.le_trans hbase hb1.size
  have hplt : p < w1.heap.size := (Array.getElem?_eq_some_iff.1 hpx).1
  have hglt : g < w1.heap.size := (Array.getElem?_eq_some_iff.1 hg1).1
  have hpo : Off b a p := ⟨by have := h.lt; omega, fun e => by have := (h.own.blk_ge e.symm).2; omega⟩
  have hgo : Off b a g := ⟨by rintro rfl; have := h.blk; rw [hg] at this; simp at this, fun e => own_ne h.own hg (by decide) e.symm⟩
  have hOld := hOld.trans (hb1.mono hOld.size)
  have hBel : ∀ k, k < w0.heap.size → Off b a k := fun k hk => ⟨by have := h.ge; omega, fun e => by have := (h.own.blk_ge e.symm).1; omega⟩
  have hS1 : w1.heap.size ≤ w1.heap.size := Nat.le_refl _
  have St_save : ∀ {k wx}, (∃ a' X c', Hid (X = l ++ (List.take k [int8 x.id.1, int8 x.reg.base.1, int8 x.reg.size.1, flagB x.keep, withB x.img]).flatten) ∧ Wr base wx b a' X c' 0 ∧ Save (Off b a) w1 wx ∧ Near w1.heap.size a a') → Save (Off b a) w1 wx := fun ⟨_, _, _, _, _, h, _⟩ => h
  have G0 : ∀ wx, Save (Off b a) w1 wx → wx.cell? ⟨g, 0, none⟩ = some (.pointer (some ⟨b, 0, none⟩)) := fun wx hs => (hs.cell (p := ⟨g, 0, none⟩) hglt hgo).trans (cells_of hg1 0 rfl)
  have C0 : ∀ wx, Save (Off b a) w1 wx → wx.cell? ⟨p, 0, none⟩ = some (.int .i64 x.id.1) := fun wx hs => (hs.cell (p := ⟨p, 0, none⟩) hplt hpo).trans (cells_of hpx 0 rfl)
  have C1 : ∀ wx, Save (Off b a) w1 wx → wx.cell? ⟨p, 1, none⟩ = some (.int .i64 x.reg.base.1) := fun wx hs => (hs.cell (p := ⟨p, 1, none⟩) hplt hpo).trans (cells_of hpx 1 rfl)
  have C2 : ∀ wx, Save (Off b a) w1 wx → wx.cell? ⟨p, 2, none⟩ = some (.int .i64 x.reg.size.1) := fun wx hs => (hs.cell (p := ⟨p, 2, none⟩) hplt hpo).trans (cells_of hpx 2 rfl)
  have C3 : ∀ wx, Save (Off b a) w1 wx → wx.cell? ⟨p, 3, none⟩ = some (.bool x.keep) := fun wx hs => (hs.cell (p := ⟨p, 3, none⟩) hplt hpo).trans (cells_of hpx 3 rfl)
  have C4 : ∀ wx, Save (Off b a) w1 wx → wx.cell? ⟨p, 4, none⟩ = some (.slice x.a x.img.length x.c) := fun wx hs => (hs.cell (p := ⟨p, 4, none⟩) hplt hpo).trans (cells_of hpx 4 rfl)
  go_enter Try.func93, Try.ntmps93
  go_upto_region 1 with fail
  rw [← hw1, ← hp]
  refine wp_region_chain (prp x b g p) (prpo x b g p) [1, 2] [3, 7, 11, 14, 17] (fun k wx => ∃ a' X c', Hid (X = l ++ (List.take k [int8 x.id.1, int8 x.reg.base.1, int8 x.reg.size.1, flagB x.keep, withB x.img]).flatten) ∧ Wr base wx b a' X c' 0 ∧ Save (Off b a) w1 wx ∧ Near w1.heap.size a a') (by kernel_rfl) (by kernel_rfl) (by kernel_rfl) ⟨rfl, rfl, trivial⟩ (fun w' hb hh => ⟨a, l, c, by simp [Hid], hW1.stay hb, Save.of hb, Near.refl _ _⟩) ?_ ?_
  · refine opsAll_cons ?_ (opsAll_cons ?_ (opsAll_cons ?_ (opsAll_cons ?_ (opsAll_cons ?_ (opsAll_cons ?_ (opsAll_cons ?_ (opsAll_cons ?_ (opsAll_cons ?_ (opsAll_cons ?_ (opsAll_cons ?_ (opsAll_cons ?_ (opsAll_cons ?_ (opsAll_cons ?_ (opsAll_cons ?_ (opsAll_cons ?_ (opsAll_cons ?_ (opsAll_cons ?_ opsAll_nil)))))))))))))))))
    all_goals intro a hk
    · exact ⟨wanted_free rfl, .inr ⟨by decide, fun k wx hk9 hst => gp_load (.tmp 1) rfl (show a.eval (.tmp 1) = (.pointer (some ⟨g, 0, none⟩)) from hk.old 1 (by kernel_rfl)) (v := .pointer (some ⟨b, 0, none⟩)) (load_at (fun w => by kernel_rfl) (G0 wx (St_save hst))) ⟨rfl, rfl⟩⟩⟩
    · exact ⟨wanted_free rfl, .inr ⟨by decide, fun k wx hk9 hst => gp_field (.tmp 2) rfl (show a.eval (.tmp 2) = (.pointer (some ⟨p, 0, none⟩)) from hk.old 2 (by kernel_rfl)) (v := .pointer (some ⟨p, 0, none⟩)) (fun w => by kernel_rfl) ⟨rfl, rfl⟩⟩⟩
    · exact ⟨wanted_free rfl, .inr ⟨by decide, fun k wx hk9 hst => gp_load (.tmp 4) rfl (show a.eval (.tmp 4) = (.pointer (some ⟨p, 0, none⟩)) from hk.slot 4 (by kernel_rfl)) (v := .int .i64 x.id.1) (load_at (fun w => by kernel_rfl) (C0 wx (St_save hst))) ⟨rfl, rfl⟩⟩⟩
    · refine ⟨wanted_free rfl, .inl ⟨0, rfl, fun wx hst => ?_⟩⟩
      obtain ⟨a', X, c', HX, hW, hS, hN⟩ := hst
      have hlen : X.length = l.length + 0 := by rw [HX.out]; simp [int8, rowB_length, flagB, withB_length]
      refine gp_call rfl rfl #[.pointer (some ⟨b, 0, none⟩), .int .i64 x.id.1] (fun w => by kernel_rfl) (by simp only [List.map_toArray, List.map_cons, List.map_nil, (show a.eval (.tmp 3) = (.pointer (some ⟨b, 0, none⟩)) from hk.slot 3 (by kernel_rfl)), (show a.eval (.tmp 5) = (.int .i64 x.id.1) from hk.slot 5 (by kernel_rfl))]) ((wint_calls hW (Nat.le_trans hbase hS.size) x.id.1 (by omega)).mono ?_)
      rintro e w' ⟨a2, X2, c2, H2, rfl, hW2, hS2, hN2⟩
      exact ⟨_, rfl, ⟨a2, X2, c2, by rw [Hid, H2.out, HX.out]; simp [int8], hW2, Save.off hS hN hS2, hN.trans hN2 hS.size⟩, rfl⟩
    · exact ⟨wanted_free rfl, .inr ⟨by decide, fun k wx hk9 hst => gp_field (.tmp 2) rfl (show a.eval (.tmp 2) = (.pointer (some ⟨p, 0, none⟩)) from hk.old 2 (by kernel_rfl)) (v := .pointer (some ⟨p, 1, none⟩)) (fun w => by kernel_rfl) ⟨rfl, rfl⟩⟩⟩
    · exact ⟨wanted_free rfl, .inr ⟨by decide, fun k wx hk9 hst => gp_field (.tmp 7) rfl (show a.eval (.tmp 7) = (.pointer (some ⟨p, 1, none⟩)) from hk.slot 7 (by kernel_rfl)) (v := .pointer (some ⟨p, 1, none⟩)) (fun w => by kernel_rfl) ⟨rfl, rfl⟩⟩⟩
    · exact ⟨wanted_free rfl, .inr ⟨by decide, fun k wx hk9 hst => gp_load (.tmp 8) rfl (show a.eval (.tmp 8) = (.pointer (some ⟨p, 1, none⟩)) from hk.slot 8 (by kernel_rfl)) (v := .int .i64 x.reg.base.1) (load_at (fun w => by kernel_rfl) (C1 wx (St_save hst))) ⟨rfl, rfl⟩⟩⟩
    · refine ⟨wanted_free rfl, .inl ⟨1, rfl, fun wx hst => ?_⟩⟩
      obtain ⟨a', X, c', HX, hW, hS, hN⟩ := hst
      have hlen : X.length = l.length + 0 + 8 := by rw [HX.out]; simp [int8, rowB_length, flagB, withB_length]
      refine gp_call rfl rfl #[.pointer (some ⟨b, 0, none⟩), .int .i64 x.reg.base.1] (fun w => by kernel_rfl) (by simp only [List.map_toArray, List.map_cons, List.map_nil, (show a.eval (.tmp 6) = (.pointer (some ⟨b, 0, none⟩)) from hk.slot 6 (by kernel_rfl)), (show a.eval (.tmp 9) = (.int .i64 x.reg.base.1) from hk.slot 9 (by kernel_rfl))]) ((wint_calls hW (Nat.le_trans hbase hS.size) x.reg.base.1 (by omega)).mono ?_)
      rintro e w' ⟨a2, X2, c2, H2, rfl, hW2, hS2, hN2⟩
      exact ⟨_, rfl, ⟨a2, X2, c2, by rw [Hid, H2.out, HX.out]; simp [int8], hW2, Save.off hS hN hS2, hN.trans hN2 hS.size⟩, rfl⟩
    · exact ⟨wanted_free rfl, .inr ⟨by decide, fun k wx hk9 hst => gp_field (.tmp 2) rfl (show a.eval (.tmp 2) = (.pointer (some ⟨p, 0, none⟩)) from hk.old 2 (by kernel_rfl)) (v := .pointer (some ⟨p, 1, none⟩)) (fun w => by kernel_rfl) ⟨rfl, rfl⟩⟩⟩
    · exact ⟨wanted_free rfl, .inr ⟨by decide, fun k wx hk9 hst => gp_field (.tmp 11) rfl (show a.eval (.tmp 11) = (.pointer (some ⟨p, 1, none⟩)) from hk.slot 11 (by kernel_rfl)) (v := .pointer (some ⟨p, 2, none⟩)) (fun w => by kernel_rfl) ⟨rfl, rfl⟩⟩⟩
    · exact ⟨wanted_free rfl, .inr ⟨by decide, fun k wx hk9 hst => gp_load (.tmp 12) rfl (show a.eval (.tmp 12) = (.pointer (some ⟨p, 2, none⟩)) from hk.slot 12 (by kernel_rfl)) (v := .int .i64 x.reg.size.1) (load_at (fun w => by kernel_rfl) (C2 wx (St_save hst))) ⟨rfl, rfl⟩⟩⟩
    · refine ⟨wanted_free rfl, .inl ⟨2, rfl, fun wx hst => ?_⟩⟩
      obtain ⟨a', X, c', HX, hW, hS, hN⟩ := hst
      have hlen : X.length = l.length + 0 + 8 + 8 := by rw [HX.out]; simp [int8, rowB_length, flagB, withB_length]
      refine gp_call rfl rfl #[.pointer (some ⟨b, 0, none⟩), .int .i64 x.reg.size.1] (fun w => by kernel_rfl) (by simp only [List.map_toArray, List.map_cons, List.map_nil, (show a.eval (.tmp 10) = (.pointer (some ⟨b, 0, none⟩)) from hk.slot 10 (by kernel_rfl)), (show a.eval (.tmp 13) = (.int .i64 x.reg.size.1) from hk.slot 13 (by kernel_rfl))]) ((wint_calls hW (Nat.le_trans hbase hS.size) x.reg.size.1 (by omega)).mono ?_)
      rintro e w' ⟨a2, X2, c2, H2, rfl, hW2, hS2, hN2⟩
      exact ⟨_, rfl, ⟨a2, X2, c2, by rw [Hid, H2.out, HX.out]; simp [int8], hW2, Save.off hS hN hS2, hN.trans hN2 hS.size⟩, rfl⟩
    · exact ⟨wanted_free rfl, .inr ⟨by decide, fun k wx hk9 hst => gp_field (.tmp 2) rfl (show a.eval (.tmp 2) = (.pointer (some ⟨p, 0, none⟩)) from hk.old 2 (by kernel_rfl)) (v := .pointer (some ⟨p, 3, none⟩)) (fun w => by kernel_rfl) ⟨rfl, rfl⟩⟩⟩
    · exact ⟨wanted_free rfl, .inr ⟨by decide, fun k wx hk9 hst => gp_load (.tmp 15) rfl (show a.eval (.tmp 15) = (.pointer (some ⟨p, 3, none⟩)) from hk.slot 15 (by kernel_rfl)) (v := .bool x.keep) (load_at (fun w => by kernel_rfl) (C3 wx (St_save hst))) ⟨rfl, rfl⟩⟩⟩
    · refine ⟨wanted_free rfl, .inl ⟨3, rfl, fun wx hst => ?_⟩⟩
      obtain ⟨a', X, c', HX, hW, hS, hN⟩ := hst
      have hlen : X.length = l.length + 0 + 8 + 8 + 8 := by rw [HX.out]; simp [int8, rowB_length, flagB, withB_length]
      refine gp_call rfl rfl #[.pointer (some ⟨b, 0, none⟩), .bool x.keep] (fun w => by kernel_rfl) (by simp only [List.map_toArray, List.map_cons, List.map_nil, (show a.eval (.tmp 14) = (.pointer (some ⟨b, 0, none⟩)) from hk.slot 14 (by kernel_rfl)), (show a.eval (.tmp 16) = (.bool x.keep) from hk.slot 16 (by kernel_rfl))]) ((wflag_calls hW (Nat.le_trans hbase hS.size) x.keep (by omega)).mono ?_)
      rintro e w' ⟨a2, X2, c2, H2, rfl, hW2, hS2, hN2⟩
      exact ⟨_, rfl, ⟨a2, X2, c2, by rw [Hid, H2.out, HX.out]; simp [int8], hW2, Save.off hS hN hS2, hN.trans hN2 hS.size⟩, rfl⟩
    · exact ⟨wanted_free rfl, .inr ⟨by decide, fun k wx hk9 hst => gp_field (.tmp 2) rfl (show a.eval (.tmp 2) = (.pointer (some ⟨p, 0, none⟩)) from hk.old 2 (by kernel_rfl)) (v := .pointer (some ⟨p, 4, none⟩)) (fun w => by kernel_rfl) ⟨rfl, rfl⟩⟩⟩
    · exact ⟨wanted_free rfl, .inr ⟨by decide, fun k wx hk9 hst => gp_load (.tmp 18) rfl (show a.eval (.tmp 18) = (.pointer (some ⟨p, 4, none⟩)) from hk.slot 18 (by kernel_rfl)) (v := .slice x.a x.img.length x.c) (load_at (fun w => by kernel_rfl) (C4 wx (St_save hst))) ⟨rfl, rfl⟩⟩⟩
    · refine ⟨wanted_free rfl, .inl ⟨4, rfl, fun wx hst => ?_⟩⟩
      obtain ⟨a', X, c', HX, hW, hS, hN⟩ := hst
      have hlen : X.length = l.length + 0 + 8 + 8 + 8 + 1 := by rw [HX.out]; simp [int8, rowB_length, flagB, withB_length]
      refine gp_call rfl rfl #[.pointer (some ⟨b, 0, none⟩), .slice x.a x.img.length x.c] (fun w => by kernel_rfl) (by simp only [List.map_toArray, List.map_cons, List.map_nil, (show a.eval (.tmp 17) = (.pointer (some ⟨b, 0, none⟩)) from hk.slot 17 (by kernel_rfl)), (show a.eval (.tmp 19) = (.slice x.a x.img.length x.c) from hk.slot 19 (by kernel_rfl))]) ((wbytes_calls hW (Nat.le_trans hbase hS.size) (hR.stay (hOld.trans (hS.below (Nat.le_trans hOld.size hS1) hBel))) (by omega)).mono ?_)
      rintro e w' ⟨a2, X2, c2, H2, rfl, hW2, hS2, hN2⟩
      exact ⟨_, rfl, ⟨a2, X2, c2, by rw [Hid, H2.out, HX.out]; simp [int8], hW2, Save.off hS hN hS2, hN.trans hN2 hS.size⟩, rfl⟩
  intro a9 wz hst hsame hall
  obtain ⟨a', X, c', HX, hW, hS, hN⟩ := hst
  have he := act_same hsame [3, 4, 5, 6, 7, 8, 9, 10, 11, 12, 13, 14, 15, 16, 17, 18, 19, 20] (by kernel_rfl)
  simp only [List.foldl_cons, List.foldl_nil] at he
  generalize a9.eval (.tmp 3) = y3 at he
  generalize a9.eval (.tmp 4) = y4 at he
  generalize a9.eval (.tmp 5) = y5 at he
  generalize a9.eval (.tmp 6) = y6 at he
  generalize a9.eval (.tmp 7) = y7 at he
  generalize a9.eval (.tmp 8) = y8 at he
  generalize a9.eval (.tmp 9) = y9 at he
  generalize a9.eval (.tmp 10) = y10 at he
  generalize a9.eval (.tmp 11) = y11 at he
  generalize a9.eval (.tmp 12) = y12 at he
  generalize a9.eval (.tmp 13) = y13 at he
  generalize a9.eval (.tmp 14) = y14 at he
  generalize a9.eval (.tmp 15) = y15 at he
  generalize a9.eval (.tmp 16) = y16 at he
  generalize a9.eval (.tmp 17) = y17 at he
  generalize a9.eval (.tmp 18) = y18 at he
  generalize a9.eval (.tmp 19) = y19 at he
  generalize a9.eval (.tmp 20) = y20 at he
  simp only [put_lit] at he
  dsimp only [List.set_cons_zero, List.set_cons_succ] at he
  subst he
  clear hsame hall
  have HZ : Hid (∃ a' X c', Hid (X = l ++ bPtV x) ∧ Wr base wz b a' X c' 0 ∧ Save (Off b a) w wz ∧ Near w.heap.size a a') := ⟨a', X, c', by rw [Hid, HX.out]; simp [bPtV], hW, (Save.of hb1).trans hS, fun g hg => (hN g hg).imp id (fun h => Nat.le_trans hb1.size h)⟩
  go_wp2_with fail
  go_end0
  exact ⟨rfl, HZ.out⟩
set_option maxRecDepth 100000 in
set_option maxHeartbeats 4000000 in
theorem listP_calls {base w b a l c} (h : Wr base w b a l c 0) (hbase : base ≤ w.heap.size) (g : Nat) (hg : w.heap[g]? = some (.cells #[.pointer (some ⟨b, 0, none⟩)] 107 (0, 0))) {w0 : World} (hOld : Below w0.heap.size w0 w) (hB0 : w0.heap.size ≤ base) {a1 : Option Addr} {L : List PtV} {c1 : Nat} (hv : Vec cPt 5 w0 a1 L c1) (himg : ∀ x ∈ L, Row w0 x.a x.img x.c) (hroom : l.length + 8 + (L.flatMap bPtV).length ≤ 65536) :
    Calls Try.prog 92 #[.pointer (some ⟨b, 0, none⟩), .slice a1 L.length c1, .func (.func 93) #[] #[.pointer (some ⟨g, 0, none⟩)]] w fun e w' => e = .returned (.tuple #[]) ∧ ∃ a' X c', Hid (X = l ++ (int8 L.length ++ L.flatMap bPtV)) ∧ Wr base w' b a' X c' 0 ∧ Save (Off b a) w w' ∧ Near w.heap.size a a' := by
  have hBel : ∀ k, k < w0.heap.size → Off b a k := fun k hk => ⟨by have := h.ge; omega, fun e => by have := (h.own.blk_ge e.symm).1; omega⟩
  have hgo : Off b a g := ⟨by rintro rfl; have := h.blk; rw [hg] at this; simp at this, fun e => own_ne h.own hg (by decide) e.symm⟩
  have hglt : g < w.heap.size := (Array.getElem?_eq_some_iff.1 hg).1
  have hln := hv.len_le
  have HH := Lib.hid (And.intro h (And.intro hg hOld))
  have hK := wint_calls h hbase (L.length : Int) (by omega)
  have HK := Lib.hid hK
  have HV := Lib.hid hv
  clear h hg hK
  go_enter Try.func92, Try.ntmps92
  go_wp2_with fail
  refine (HK.out).mono ?_
  rintro e w1 ⟨a2, X2, c2, H2, rfl, hW2, hS2, hN2⟩
  have HW2 := Lib.hid (And.intro hW2 (And.intro hS2 hN2))
  have H2 : Hid (X2 = l ++ int8 L.length) := H2
  clear hW2 hS2 hN2 HK
  go_wp2_with fail
  go_loopw [14] (fun i wr => ∃ (k : Nat) (a' : Option Addr) (X : List UInt8) (c' : Nat), i = .int .i64 (k : Int) ∧ k ≤ L.length ∧ Hid (X = l ++ (int8 L.length ++ (L.take k).flatMap bPtV)) ∧ Wr base wr b a' X c' 0 ∧ Save (Off b a) w wr ∧ Near w.heap.size a a') (fun i _ => L.length - (intOf i).toNat)
  case atStart => exact ⟨0, a2, X2, c2, rfl, Nat.zero_le _, by rw [Hid, H2.out]; simp, HW2.out.1, HW2.out.2.1, HW2.out.2.2⟩
  case round =>
    obtain ⟨k, a3, X3, c3, rfl, hk, H3, hW3, hS3, hN3⟩ := hrel
    have HW3 := Lib.hid (And.intro hW3 (And.intro hS3 hN3))
    by_cases hlt : k < L.length
    · have hB3 : Below w0.heap.size w0 wr := HH.out.2.2.trans (hS3.below HH.out.2.2.size hBel)
      have i0 := HV.out.index etP k hlt
      obtain ⟨u0, u1, u2, u3, u4⟩ := pts_cells HV.out hB3 k hlt
      have HS := Lib.hid (take_flat bPtV L k hlt)
      have hfl := flat_le bPtV L (k + 1)
      rw [HS.out] at hfl
      simp only [List.length_append] at hfl
      have hl3 : X3.length = l.length + 8 + ((L.take k).flatMap bPtV).length := by rw [H3.out]; simp [int8, rowB_length]; omega
      have HROW := Lib.hid (himg L[k] (List.getElem_mem hlt))
      obtain ⟨x, hx⟩ : ∃ x, Hid (x = L[k]) := ⟨L[k], rfl⟩
      rw [← hx.out] at u0 u1 u2 u3 u4 HS hfl HROW
      obtain ⟨wb, hwb⟩ : ∃ wb, wb = wr.alloc (.cells #[.int .i64 x.id.1, .int .i64 x.reg.base.1, .int .i64 x.reg.size.1, .bool x.keep, .slice x.a x.img.length x.c] 43) := ⟨_, rfl⟩
      have hbb : Below wr.heap.size wr wb := by rw [hwb]; exact (Below.refl _ _).alloc (Nat.le_refl _) _
      have hgb : wb.heap[g]? = some (.cells #[.pointer (some ⟨b, 0, none⟩)] 107 (0, 0)) := blk_stay ((hS3.block g hglt hgo).trans HH.out.2.1) hbb
      have hbs : base ≤ wb.heap.size := Nat.le_trans hbase (Nat.le_trans hS3.size hbb.size)
      have hbl : (bPtV x).length = 8 + 8 + 8 + 1 + (x.img.length + 4) := by simp [bPtV, int8, rowB_length, flagB, withB_length] <;> omega
      have HKC := Lib.hid (prp_calls (hW3.stay hbb) hbs g hgb x (HH.out.2.2.trans ((hS3.below HH.out.2.2.size hBel).trans (hbb.mono (HH.out.2.2.trans (hS3.below HH.out.2.2.size hBel)).size))) HROW.out hB0 (by omega))
      have HBB := Lib.hid hbb
      clear hW3 hS3 hN3 hB3 hbb hgb hbs hfl
      go_wp2_with fail
      rw [← hwb]
      clear hwb
      refine (HKC.out).mono ?_
      rintro e w5 ⟨rfl, a5, X5, c5, H5, hW5, hS5, hN5⟩
      have HW5 := Lib.hid (And.intro hW5 (And.intro (Save.off HW3.out.2.1 HW3.out.2.2 ((Save.of HBB.out).trans hS5)) (HW3.out.2.2.trans (fun g hg => (hN5 g hg).imp id (fun h => Nat.le_trans HBB.out.size h)) HW3.out.2.1.size)))
      have HN5 : Hid (X5 = l ++ (int8 L.length ++ (L.take (k + 1)).flatMap bPtV)) := by rw [Hid, H5.out, H3.out, HS.out]; simp
      clear hW5 hS5 hN5 HKC u0 u1 u2 u3 u4 i0
      go_wp2_with fail
      go_roundw
      case rel => exact ⟨k + 1, a5, X5, c5, by go_num, by omega, HN5.out, HW5.out.1, HW5.out.2.1, HW5.out.2.2⟩
      case measure => simp [intOf]; omega
    · have hk2 : k = L.length := by omega
      have HN : Hid (X3 = l ++ (int8 L.length ++ L.flatMap bPtV)) := by rw [Hid, H3.out, hk2, List.take_length]
      clear hW3 hS3 hN3 hk2
      go_wp2_with fail
      go_end0
      exact ⟨rfl, a3, X3, c3, HN.out, HW3.out.1, HW3.out.2.1, HW3.out.2.2⟩
def prc (x : Ch) (b _ p : Nat) : Nat → Value
  | 3 => (.pointer (some ⟨b, 0, none⟩))
  | 4 => (.pointer (some ⟨p, 0, none⟩))
  | 5 => (.int .i64 x.id.1)
  | 6 => (.pointer (some ⟨b, 0, none⟩))
  | 7 => (.pointer (some ⟨p, 1, none⟩))
  | 8 => (.int .i64 x.src.1)
  | 9 => (.pointer (some ⟨b, 0, none⟩))
  | 10 => (.pointer (some ⟨p, 2, none⟩))
  | 11 => (.int .i64 x.dst.1)
  | 12 => (.pointer (some ⟨b, 0, none⟩))
  | 13 => (.pointer (some ⟨p, 3, none⟩))
  | 14 => (.int .i64 x.cap.1)
  | 15 => (.pointer (some ⟨b, 0, none⟩))
  | 16 => (.pointer (some ⟨p, 4, none⟩))
  | 17 => (.int .i64 x.size.1)
  | 18 => (.pointer (some ⟨b, 0, none⟩))
  | _ => undef
def prco (_ : Ch) (_ g p : Nat) : Nat → Value
  | 1 => (.pointer (some ⟨g, 0, none⟩))
  | 2 => (.pointer (some ⟨p, 0, none⟩))
  | _ => undef
def bCh (x : Ch) : List UInt8 := (int8 x.id.1) ++ (int8 x.src.1) ++ (int8 x.dst.1) ++ (int8 x.cap.1) ++ (int8 x.size.1)
set_option maxRecDepth 100000 in
set_option maxHeartbeats 4000000 in
theorem prc_calls {base w b a l c} (h : Wr base w b a l c 0) (hbase : base ≤ w.heap.size) (g : Nat) (hg : w.heap[g]? = some (.cells #[.pointer (some ⟨b, 0, none⟩)] 107 (0, 0))) (x : Ch) (hroom : l.length + (8 + 8 + 8 + 8 + 8) ≤ 65536) :
    Calls Try.prog 97 (#[.agg #[.int .i64 x.id.1, .int .i64 x.src.1, .int .i64 x.dst.1, .int .i64 x.cap.1, .int .i64 x.size.1]] ++ #[.pointer (some ⟨g, 0, none⟩)]) w fun e w' => e = .returned (.tuple #[]) ∧ ∃ a' X c', Hid (X = l ++ bCh x) ∧ Wr base w' b a' X c' 0 ∧ Save (Off b a) w w' ∧ Near w.heap.size a a' := by
  show Calls Try.prog 97 #[.agg #[.int .i64 x.id.1, .int .i64 x.src.1, .int .i64 x.dst.1, .int .i64 x.cap.1, .int .i64 x.size.1], .pointer (some ⟨g, 0, none⟩)] w _
  obtain ⟨w1, hw1⟩ : ∃ w1, w1 = w.alloc (.cells #[.int .i64 x.id.1, .int .i64 x.src.1, .int .i64 x.dst.1, .int .i64 x.cap.1, .int .i64 x.size.1] 54) := ⟨_, rfl⟩
  obtain ⟨p, hp⟩ : ∃ p, p = w.heap.size := ⟨_, rfl⟩
  have hb1 : Below w.heap.size w w1 := by rw [hw1]; exact (Below.refl _ w).alloc (Nat.le_refl _) _
  have hpx : w1.heap[p]? = some (.cells #[.int .i64 x.id.1, .int .i64 x.src.1, .int .i64 x.dst.1, .int .i64 x.cap.1, .int .i64 x.size.1] 54 (0, 0)) := by rw [hw1, hp]; exact heap_alloc_new _ _
  have hW1 := h.stay hb1
  have hg1 := blk_stay hg hb1
  have hbase : base ≤ w1.heap.size := Nat.le_trans hbase hb1.size
  have hplt : p < w1.heap.size := (Array.getElem?_eq_some_iff.1 hpx).1
  have hglt : g < w1.heap.size := (Array.getElem?_eq_some_iff.1 hg1).1
  have hpo : Off b a p := ⟨by have := h.lt; omega, fun e => by have := (h.own.blk_ge e.symm).2; omega⟩
  have hgo : Off b a g := ⟨by rintro rfl; have := h.blk; rw [hg] at this; simp at this, fun e => own_ne h.own hg (by decide) e.symm⟩
  have St_save : ∀ {k wx}, (∃ a' X c', Hid (X = l ++ (List.take k [int8 x.id.1, int8 x.src.1, int8 x.dst.1, int8 x.cap.1, int8 x.size.1]).flatten) ∧ Wr base wx b a' X c' 0 ∧ Save (Off b a) w1 wx ∧ Near w1.heap.size a a') → Save (Off b a) w1 wx := fun ⟨_, _, _, _, _, h, _⟩ => h
  have G0 : ∀ wx, Save (Off b a) w1 wx → wx.cell? ⟨g, 0, none⟩ = some (.pointer (some ⟨b, 0, none⟩)) := fun wx hs => (hs.cell (p := ⟨g, 0, none⟩) hglt hgo).trans (cells_of hg1 0 rfl)
  have C0 : ∀ wx, Save (Off b a) w1 wx → wx.cell? ⟨p, 0, none⟩ = some (.int .i64 x.id.1) := fun wx hs => (hs.cell (p := ⟨p, 0, none⟩) hplt hpo).trans (cells_of hpx 0 rfl)
  have C1 : ∀ wx, Save (Off b a) w1 wx → wx.cell? ⟨p, 1, none⟩ = some (.int .i64 x.src.1) := fun wx hs => (hs.cell (p := ⟨p, 1, none⟩) hplt hpo).trans (cells_of hpx 1 rfl)
  have C2 : ∀ wx, Save (Off b a) w1 wx → wx.cell? ⟨p, 2, none⟩ = some (.int .i64 x.dst.1) := fun wx hs => (hs.cell (p := ⟨p, 2, none⟩) hplt hpo).trans (cells_of hpx 2 rfl)
  have C3 : ∀ wx, Save (Off b a) w1 wx → wx.cell? ⟨p, 3, none⟩ = some (.int .i64 x.cap.1) := fun wx hs => (hs.cell (p := ⟨p, 3, none⟩) hplt hpo).trans (cells_of hpx 3 rfl)
  have C4 : ∀ wx, Save (Off b a) w1 wx → wx.cell? ⟨p, 4, none⟩ = some (.int .i64 x.size.1) := fun wx hs => (hs.cell (p := ⟨p, 4, none⟩) hplt hpo).trans (cells_of hpx 4 rfl)
  go_enter Try.func97, Try.ntmps97
  go_upto_region 1 with fail
  rw [← hw1, ← hp]
  refine wp_region_chain (prc x b g p) (prco x b g p) [1, 2] [3, 6, 9, 12, 15] (fun k wx => ∃ a' X c', Hid (X = l ++ (List.take k [int8 x.id.1, int8 x.src.1, int8 x.dst.1, int8 x.cap.1, int8 x.size.1]).flatten) ∧ Wr base wx b a' X c' 0 ∧ Save (Off b a) w1 wx ∧ Near w1.heap.size a a') (by kernel_rfl) (by kernel_rfl) (by kernel_rfl) ⟨rfl, rfl, trivial⟩ (fun w' hb hh => ⟨a, l, c, by simp [Hid], hW1.stay hb, Save.of hb, Near.refl _ _⟩) ?_ ?_
  · refine opsAll_cons ?_ (opsAll_cons ?_ (opsAll_cons ?_ (opsAll_cons ?_ (opsAll_cons ?_ (opsAll_cons ?_ (opsAll_cons ?_ (opsAll_cons ?_ (opsAll_cons ?_ (opsAll_cons ?_ (opsAll_cons ?_ (opsAll_cons ?_ (opsAll_cons ?_ (opsAll_cons ?_ (opsAll_cons ?_ (opsAll_cons ?_ opsAll_nil)))))))))))))))
    all_goals intro a hk
    · exact ⟨wanted_free rfl, .inr ⟨by decide, fun k wx hk9 hst => gp_load (.tmp 1) rfl (show a.eval (.tmp 1) = (.pointer (some ⟨g, 0, none⟩)) from hk.old 1 (by kernel_rfl)) (v := .pointer (some ⟨b, 0, none⟩)) (load_at (fun w => by kernel_rfl) (G0 wx (St_save hst))) ⟨rfl, rfl⟩⟩⟩
    · exact ⟨wanted_free rfl, .inr ⟨by decide, fun k wx hk9 hst => gp_field (.tmp 2) rfl (show a.eval (.tmp 2) = (.pointer (some ⟨p, 0, none⟩)) from hk.old 2 (by kernel_rfl)) (v := .pointer (some ⟨p, 0, none⟩)) (fun w => by kernel_rfl) ⟨rfl, rfl⟩⟩⟩
    · exact ⟨wanted_free rfl, .inr ⟨by decide, fun k wx hk9 hst => gp_load (.tmp 4) rfl (show a.eval (.tmp 4) = (.pointer (some ⟨p, 0, none⟩)) from hk.slot 4 (by kernel_rfl)) (v := .int .i64 x.id.1) (load_at (fun w => by kernel_rfl) (C0 wx (St_save hst))) ⟨rfl, rfl⟩⟩⟩
    · refine ⟨wanted_free rfl, .inl ⟨0, rfl, fun wx hst => ?_⟩⟩
      obtain ⟨a', X, c', HX, hW, hS, hN⟩ := hst
      have hlen : X.length = l.length + 0 := by rw [HX.out]; simp [int8, rowB_length, flagB, withB_length]
      refine gp_call rfl rfl #[.pointer (some ⟨b, 0, none⟩), .int .i64 x.id.1] (fun w => by kernel_rfl) (by simp only [List.map_toArray, List.map_cons, List.map_nil, (show a.eval (.tmp 3) = (.pointer (some ⟨b, 0, none⟩)) from hk.slot 3 (by kernel_rfl)), (show a.eval (.tmp 5) = (.int .i64 x.id.1) from hk.slot 5 (by kernel_rfl))]) ((wint_calls hW (Nat.le_trans hbase hS.size) x.id.1 (by omega)).mono ?_)
      rintro e w' ⟨a2, X2, c2, H2, rfl, hW2, hS2, hN2⟩
      exact ⟨_, rfl, ⟨a2, X2, c2, by rw [Hid, H2.out, HX.out]; simp [int8], hW2, Save.off hS hN hS2, hN.trans hN2 hS.size⟩, rfl⟩
    · exact ⟨wanted_free rfl, .inr ⟨by decide, fun k wx hk9 hst => gp_field (.tmp 2) rfl (show a.eval (.tmp 2) = (.pointer (some ⟨p, 0, none⟩)) from hk.old 2 (by kernel_rfl)) (v := .pointer (some ⟨p, 1, none⟩)) (fun w => by kernel_rfl) ⟨rfl, rfl⟩⟩⟩
    · exact ⟨wanted_free rfl, .inr ⟨by decide, fun k wx hk9 hst => gp_load (.tmp 7) rfl (show a.eval (.tmp 7) = (.pointer (some ⟨p, 1, none⟩)) from hk.slot 7 (by kernel_rfl)) (v := .int .i64 x.src.1) (load_at (fun w => by kernel_rfl) (C1 wx (St_save hst))) ⟨rfl, rfl⟩⟩⟩
    · refine ⟨wanted_free rfl, .inl ⟨1, rfl, fun wx hst => ?_⟩⟩
      obtain ⟨a', X, c', HX, hW, hS, hN⟩ := hst
      have hlen : X.length = l.length + 0 + 8 := by rw [HX.out]; simp [int8, rowB_length, flagB, withB_length]
      refine gp_call rfl rfl #[.pointer (some ⟨b, 0, none⟩), .int .i64 x.src.1] (fun w => by kernel_rfl) (by simp only [List.map_toArray, List.map_cons, List.map_nil, (show a.eval (.tmp 6) = (.pointer (some ⟨b, 0, none⟩)) from hk.slot 6 (by kernel_rfl)), (show a.eval (.tmp 8) = (.int .i64 x.src.1) from hk.slot 8 (by kernel_rfl))]) ((wint_calls hW (Nat.le_trans hbase hS.size) x.src.1 (by omega)).mono ?_)
      rintro e w' ⟨a2, X2, c2, H2, rfl, hW2, hS2, hN2⟩
      exact ⟨_, rfl, ⟨a2, X2, c2, by rw [Hid, H2.out, HX.out]; simp [int8], hW2, Save.off hS hN hS2, hN.trans hN2 hS.size⟩, rfl⟩
    · exact ⟨wanted_free rfl, .inr ⟨by decide, fun k wx hk9 hst => gp_field (.tmp 2) rfl (show a.eval (.tmp 2) = (.pointer (some ⟨p, 0, none⟩)) from hk.old 2 (by kernel_rfl)) (v := .pointer (some ⟨p, 2, none⟩)) (fun w => by kernel_rfl) ⟨rfl, rfl⟩⟩⟩
    · exact ⟨wanted_free rfl, .inr ⟨by decide, fun k wx hk9 hst => gp_load (.tmp 10) rfl (show a.eval (.tmp 10) = (.pointer (some ⟨p, 2, none⟩)) from hk.slot 10 (by kernel_rfl)) (v := .int .i64 x.dst.1) (load_at (fun w => by kernel_rfl) (C2 wx (St_save hst))) ⟨rfl, rfl⟩⟩⟩
    · refine ⟨wanted_free rfl, .inl ⟨2, rfl, fun wx hst => ?_⟩⟩
      obtain ⟨a', X, c', HX, hW, hS, hN⟩ := hst
      have hlen : X.length = l.length + 0 + 8 + 8 := by rw [HX.out]; simp [int8, rowB_length, flagB, withB_length]
      refine gp_call rfl rfl #[.pointer (some ⟨b, 0, none⟩), .int .i64 x.dst.1] (fun w => by kernel_rfl) (by simp only [List.map_toArray, List.map_cons, List.map_nil, (show a.eval (.tmp 9) = (.pointer (some ⟨b, 0, none⟩)) from hk.slot 9 (by kernel_rfl)), (show a.eval (.tmp 11) = (.int .i64 x.dst.1) from hk.slot 11 (by kernel_rfl))]) ((wint_calls hW (Nat.le_trans hbase hS.size) x.dst.1 (by omega)).mono ?_)
      rintro e w' ⟨a2, X2, c2, H2, rfl, hW2, hS2, hN2⟩
      exact ⟨_, rfl, ⟨a2, X2, c2, by rw [Hid, H2.out, HX.out]; simp [int8], hW2, Save.off hS hN hS2, hN.trans hN2 hS.size⟩, rfl⟩
    · exact ⟨wanted_free rfl, .inr ⟨by decide, fun k wx hk9 hst => gp_field (.tmp 2) rfl (show a.eval (.tmp 2) = (.pointer (some ⟨p, 0, none⟩)) from hk.old 2 (by kernel_rfl)) (v := .pointer (some ⟨p, 3, none⟩)) (fun w => by kernel_rfl) ⟨rfl, rfl⟩⟩⟩
    · exact ⟨wanted_free rfl, .inr ⟨by decide, fun k wx hk9 hst => gp_load (.tmp 13) rfl (show a.eval (.tmp 13) = (.pointer (some ⟨p, 3, none⟩)) from hk.slot 13 (by kernel_rfl)) (v := .int .i64 x.cap.1) (load_at (fun w => by kernel_rfl) (C3 wx (St_save hst))) ⟨rfl, rfl⟩⟩⟩
    · refine ⟨wanted_free rfl, .inl ⟨3, rfl, fun wx hst => ?_⟩⟩
      obtain ⟨a', X, c', HX, hW, hS, hN⟩ := hst
      have hlen : X.length = l.length + 0 + 8 + 8 + 8 := by rw [HX.out]; simp [int8, rowB_length, flagB, withB_length]
      refine gp_call rfl rfl #[.pointer (some ⟨b, 0, none⟩), .int .i64 x.cap.1] (fun w => by kernel_rfl) (by simp only [List.map_toArray, List.map_cons, List.map_nil, (show a.eval (.tmp 12) = (.pointer (some ⟨b, 0, none⟩)) from hk.slot 12 (by kernel_rfl)), (show a.eval (.tmp 14) = (.int .i64 x.cap.1) from hk.slot 14 (by kernel_rfl))]) ((wint_calls hW (Nat.le_trans hbase hS.size) x.cap.1 (by omega)).mono ?_)
      rintro e w' ⟨a2, X2, c2, H2, rfl, hW2, hS2, hN2⟩
      exact ⟨_, rfl, ⟨a2, X2, c2, by rw [Hid, H2.out, HX.out]; simp [int8], hW2, Save.off hS hN hS2, hN.trans hN2 hS.size⟩, rfl⟩
    · exact ⟨wanted_free rfl, .inr ⟨by decide, fun k wx hk9 hst => gp_field (.tmp 2) rfl (show a.eval (.tmp 2) = (.pointer (some ⟨p, 0, none⟩)) from hk.old 2 (by kernel_rfl)) (v := .pointer (some ⟨p, 4, none⟩)) (fun w => by kernel_rfl) ⟨rfl, rfl⟩⟩⟩
    · exact ⟨wanted_free rfl, .inr ⟨by decide, fun k wx hk9 hst => gp_load (.tmp 16) rfl (show a.eval (.tmp 16) = (.pointer (some ⟨p, 4, none⟩)) from hk.slot 16 (by kernel_rfl)) (v := .int .i64 x.size.1) (load_at (fun w => by kernel_rfl) (C4 wx (St_save hst))) ⟨rfl, rfl⟩⟩⟩
    · refine ⟨wanted_free rfl, .inl ⟨4, rfl, fun wx hst => ?_⟩⟩
      obtain ⟨a', X, c', HX, hW, hS, hN⟩ := hst
      have hlen : X.length = l.length + 0 + 8 + 8 + 8 + 8 := by rw [HX.out]; simp [int8, rowB_length, flagB, withB_length]
      refine gp_call rfl rfl #[.pointer (some ⟨b, 0, none⟩), .int .i64 x.size.1] (fun w => by kernel_rfl) (by simp only [List.map_toArray, List.map_cons, List.map_nil, (show a.eval (.tmp 15) = (.pointer (some ⟨b, 0, none⟩)) from hk.slot 15 (by kernel_rfl)), (show a.eval (.tmp 17) = (.int .i64 x.size.1) from hk.slot 17 (by kernel_rfl))]) ((wint_calls hW (Nat.le_trans hbase hS.size) x.size.1 (by omega)).mono ?_)
      rintro e w' ⟨a2, X2, c2, H2, rfl, hW2, hS2, hN2⟩
      exact ⟨_, rfl, ⟨a2, X2, c2, by rw [Hid, H2.out, HX.out]; simp [int8], hW2, Save.off hS hN hS2, hN.trans hN2 hS.size⟩, rfl⟩
  intro a9 wz hst hsame hall
  obtain ⟨a', X, c', HX, hW, hS, hN⟩ := hst
  have he := act_same hsame [3, 4, 5, 6, 7, 8, 9, 10, 11, 12, 13, 14, 15, 16, 17, 18] (by kernel_rfl)
  simp only [List.foldl_cons, List.foldl_nil] at he
  generalize a9.eval (.tmp 3) = y3 at he
  generalize a9.eval (.tmp 4) = y4 at he
  generalize a9.eval (.tmp 5) = y5 at he
  generalize a9.eval (.tmp 6) = y6 at he
  generalize a9.eval (.tmp 7) = y7 at he
  generalize a9.eval (.tmp 8) = y8 at he
  generalize a9.eval (.tmp 9) = y9 at he
  generalize a9.eval (.tmp 10) = y10 at he
  generalize a9.eval (.tmp 11) = y11 at he
  generalize a9.eval (.tmp 12) = y12 at he
  generalize a9.eval (.tmp 13) = y13 at he
  generalize a9.eval (.tmp 14) = y14 at he
  generalize a9.eval (.tmp 15) = y15 at he
  generalize a9.eval (.tmp 16) = y16 at he
  generalize a9.eval (.tmp 17) = y17 at he
  generalize a9.eval (.tmp 18) = y18 at he
  simp only [put_lit] at he
  dsimp only [List.set_cons_zero, List.set_cons_succ] at he
  subst he
  clear hsame hall
  have HZ : Hid (∃ a' X c', Hid (X = l ++ bCh x) ∧ Wr base wz b a' X c' 0 ∧ Save (Off b a) w wz ∧ Near w.heap.size a a') := ⟨a', X, c', by rw [Hid, HX.out]; simp [bCh], hW, (Save.of hb1).trans hS, fun g hg => (hN g hg).imp id (fun h => Nat.le_trans hb1.size h)⟩
  go_wp2_with fail
  go_end0
  exact ⟨rfl, HZ.out⟩
set_option maxRecDepth 100000 in
set_option maxHeartbeats 4000000 in
theorem listC_calls {base w b a l c} (h : Wr base w b a l c 0) (hbase : base ≤ w.heap.size) (g : Nat) (hg : w.heap[g]? = some (.cells #[.pointer (some ⟨b, 0, none⟩)] 107 (0, 0))) {w0 : World} (hOld : Below w0.heap.size w0 w) (hB0 : w0.heap.size ≤ base) {a1 : Option Addr} {L : List Ch} {c1 : Nat} (hv : Vec cCh 5 w0 a1 L c1) (hroom : l.length + 8 + (L.flatMap bCh).length ≤ 65536) :
    Calls Try.prog 96 #[.pointer (some ⟨b, 0, none⟩), .slice a1 L.length c1, .func (.func 97) #[] #[.pointer (some ⟨g, 0, none⟩)]] w fun e w' => e = .returned (.tuple #[]) ∧ ∃ a' X c', Hid (X = l ++ (int8 L.length ++ L.flatMap bCh)) ∧ Wr base w' b a' X c' 0 ∧ Save (Off b a) w w' ∧ Near w.heap.size a a' := by
  have hBel : ∀ k, k < w0.heap.size → Off b a k := fun k hk => ⟨by have := h.ge; omega, fun e => by have := (h.own.blk_ge e.symm).1; omega⟩
  have hgo : Off b a g := ⟨by rintro rfl; have := h.blk; rw [hg] at this; simp at this, fun e => own_ne h.own hg (by decide) e.symm⟩
  have hglt : g < w.heap.size := (Array.getElem?_eq_some_iff.1 hg).1
  have hln := hv.len_le
  have HH := Lib.hid (And.intro h (And.intro hg hOld))
  have hK := wint_calls h hbase (L.length : Int) (by omega)
  have HK := Lib.hid hK
  have HV := Lib.hid hv
  clear h hg hK
  go_enter Try.func96, Try.ntmps96
  go_wp2_with fail
  refine (HK.out).mono ?_
  rintro e w1 ⟨a2, X2, c2, H2, rfl, hW2, hS2, hN2⟩
  have HW2 := Lib.hid (And.intro hW2 (And.intro hS2 hN2))
  have H2 : Hid (X2 = l ++ int8 L.length) := H2
  clear hW2 hS2 hN2 HK
  go_wp2_with fail
  go_loopw [14] (fun i wr => ∃ (k : Nat) (a' : Option Addr) (X : List UInt8) (c' : Nat), i = .int .i64 (k : Int) ∧ k ≤ L.length ∧ Hid (X = l ++ (int8 L.length ++ (L.take k).flatMap bCh)) ∧ Wr base wr b a' X c' 0 ∧ Save (Off b a) w wr ∧ Near w.heap.size a a') (fun i _ => L.length - (intOf i).toNat)
  case atStart => exact ⟨0, a2, X2, c2, rfl, Nat.zero_le _, by rw [Hid, H2.out]; simp, HW2.out.1, HW2.out.2.1, HW2.out.2.2⟩
  case round =>
    obtain ⟨k, a3, X3, c3, rfl, hk, H3, hW3, hS3, hN3⟩ := hrel
    have HW3 := Lib.hid (And.intro hW3 (And.intro hS3 hN3))
    by_cases hlt : k < L.length
    · have hB3 : Below w0.heap.size w0 wr := HH.out.2.2.trans (hS3.below HH.out.2.2.size hBel)
      have i0 := HV.out.index etC k hlt
      obtain ⟨u0, u1, u2, u3, u4⟩ := chs_cells HV.out hB3 k hlt
      have HS := Lib.hid (take_flat bCh L k hlt)
      have hfl := flat_le bCh L (k + 1)
      rw [HS.out] at hfl
      simp only [List.length_append] at hfl
      have hl3 : X3.length = l.length + 8 + ((L.take k).flatMap bCh).length := by rw [H3.out]; simp [int8, rowB_length]; omega
      obtain ⟨x, hx⟩ : ∃ x, Hid (x = L[k]) := ⟨L[k], rfl⟩
      rw [← hx.out] at u0 u1 u2 u3 u4 HS hfl
      obtain ⟨wb, hwb⟩ : ∃ wb, wb = wr.alloc (.cells #[.int .i64 x.id.1, .int .i64 x.src.1, .int .i64 x.dst.1, .int .i64 x.cap.1, .int .i64 x.size.1] 54) := ⟨_, rfl⟩
      have hbb : Below wr.heap.size wr wb := by rw [hwb]; exact (Below.refl _ _).alloc (Nat.le_refl _) _
      have hgb : wb.heap[g]? = some (.cells #[.pointer (some ⟨b, 0, none⟩)] 107 (0, 0)) := blk_stay ((hS3.block g hglt hgo).trans HH.out.2.1) hbb
      have hbs : base ≤ wb.heap.size := Nat.le_trans hbase (Nat.le_trans hS3.size hbb.size)
      have hbl : (bCh x).length = 8 + 8 + 8 + 8 + 8 := by simp [bCh, int8, rowB_length, flagB, withB_length] <;> omega
      have HKC := Lib.hid (prc_calls (hW3.stay hbb) hbs g hgb x (by omega))
      have HBB := Lib.hid hbb
      clear hW3 hS3 hN3 hB3 hbb hgb hbs hfl
      go_wp2_with fail
      rw [← hwb]
      clear hwb
      refine (HKC.out).mono ?_
      rintro e w5 ⟨rfl, a5, X5, c5, H5, hW5, hS5, hN5⟩
      have HW5 := Lib.hid (And.intro hW5 (And.intro (Save.off HW3.out.2.1 HW3.out.2.2 ((Save.of HBB.out).trans hS5)) (HW3.out.2.2.trans (fun g hg => (hN5 g hg).imp id (fun h => Nat.le_trans HBB.out.size h)) HW3.out.2.1.size)))
      have HN5 : Hid (X5 = l ++ (int8 L.length ++ (L.take (k + 1)).flatMap bCh)) := by rw [Hid, H5.out, H3.out, HS.out]; simp
      clear hW5 hS5 hN5 HKC u0 u1 u2 u3 u4 i0
      go_wp2_with fail
      go_roundw
      case rel => exact ⟨k + 1, a5, X5, c5, by go_num, by omega, HN5.out, HW5.out.1, HW5.out.2.1, HW5.out.2.2⟩
      case measure => simp [intOf]; omega
    · have hk2 : k = L.length := by omega
      have HN : Hid (X3 = l ++ (int8 L.length ++ L.flatMap bCh)) := by rw [Hid, H3.out, hk2, List.take_length]
      clear hW3 hS3 hN3 hk2
      go_wp2_with fail
      go_end0
      exact ⟨rfl, a3, X3, c3, HN.out, HW3.out.1, HW3.out.2.1, HW3.out.2.2⟩
end Go.Proofs.Ytpnbaapjjchlbaa

/- config.Print: walked whole. -/
namespace Go.Proofs.Ytpnbaapjjchlbaa
open Go Go.RowKit Go.Cit

/-- The form of a configuration. -/
def formV (V : CfgV) : List UInt8 := ((int8 V.ws.length ++ V.ws.flatMap bWin) ++ (int8 V.ps.length ++ V.ps.flatMap bPtV)) ++ (int8 V.cs.length ++ V.cs.flatMap bCh)
def printB (V : CfgV) : List UInt8 := if canV V then formV V else []
def printE (V : CfgV) : Int := if canV V then 0 else 2
theorem int8_len (n : Int) : (int8 n).length = 8 := rowB_length _ _
theorem win_flat : ∀ (l : List Win), (l.flatMap bWin).length = 16 * l.length
  | [] => rfl
  | x :: r => by rw [List.flatMap_cons, List.length_append, win_flat r, List.length_cons]; simp [bWin, int8_len]; omega
theorem ch_flat : ∀ (l : List Ch), (l.flatMap bCh).length = 40 * l.length
  | [] => rfl
  | x :: r => by rw [List.flatMap_cons, List.length_append, ch_flat r, List.length_cons]; simp [bCh, int8_len]; omega
theorem pt_flat : ∀ (l : List PtV), l.any longP = false → (l.flatMap bPtV).length ≤ 541 * l.length
  | [], _ => by simp
  | x :: r, h => by
    rw [List.any_cons, Bool.or_eq_false_iff] at h
    have h1 := h.1
    unfold longP at h1
    have h1 := of_decide_eq_false h1
    rw [List.flatMap_cons, List.length_append, List.length_cons]
    have := pt_flat r h.2
    have h2 : (bPtV x).length = 29 + x.img.length := by simp [bPtV, int8_len, flagB, withB_length]; omega
    omega
theorem can_spec {V : CfgV} (h : canV V = true) : V.ws.length ≤ 12 ∧ V.ps.length ≤ 6 ∧ V.cs.length ≤ 8 ∧ V.ps.any longP = false := by
  unfold canV at h
  simp only [Bool.and_eq_true, decide_eq_true_eq, Bool.not_eq_true'] at h
  exact ⟨h.1.1.1, h.1.1.2, h.1.2, h.2⟩
theorem Wr.old {base N : Nat} {w b a l c e} (h : Wr base w b a l c e) (hN : N ≤ base) : ∀ k, k < N → Off b a k := fun k hk => ⟨by have := h.ge; omega, fun e => by have := (h.own.blk_ge e.symm).1; omega⟩
set_option maxRecDepth 100000 in
set_option maxHeartbeats 4000000 in
theorem print_calls (w : World) (V : CfgV) (h : V.At w) (hs : SmallV V) : Calls Try.prog 46 #[.agg #[.slice V.wa V.ws.length V.wc, .slice V.pa V.ps.length V.pc, .slice V.ca V.cs.length V.cc]] w fun e w' => ∃ a' c', e = .returned (.tuple #[.slice a' (printB V).length c', .int .i64 (printE V)]) ∧ Mine w.heap.size w' a' (printB V) c' ∧ Below w.heap.size w w' := by
  obtain ⟨w0, hw0⟩ : ∃ w0, w0 = w.alloc (.cells #[.slice V.wa V.ws.length V.wc, .slice V.pa V.ps.length V.pc, .slice V.ca V.cs.length V.cc] 26) := ⟨_, rfl⟩
  have B0 : Below w.heap.size w w0 := by rw [hw0]; exact (Below.refl _ w).alloc (Nat.le_refl _) _
  have hI : InBox w0 w.heap.size V := by rw [hw0]; exact inBox_new w V _
  have HV := Lib.hid (h.stay B0)
  have HI := Lib.hid hI
  have HB0 := Lib.hid B0
  obtain ⟨g, hg⟩ : ∃ g, Hid (g = canV V) := ⟨_, rfl⟩
  have hc := can_calls w0 V (h.stay B0)
  rw [← hg.out] at hc
  have HC := Lib.hid hc
  clear h B0 hI hc
  obtain ⟨c0, c1, c2⟩ := HI.out
  obtain ⟨PB, hPB⟩ : ∃ PB, Hid (PB = printB V) := ⟨_, rfl⟩
  obtain ⟨PE, hPE⟩ : ∃ PE, Hid (PE = printE V) := ⟨_, rfl⟩
  rw [← hPB.out, ← hPE.out]
  go_enter Try.func46, Try.ntmps46
  go_wp2_with fail
  rw [← hw0]
  clear hw0
  refine (HC.out).mono ?_
  rintro e w1 ⟨rfl, hb1⟩
  have HB1 := Lib.hid hb1
  clear hb1 c0 c1 c2 HC
  cases g with
  | false =>
    have e1 : Hid (PB = []) := by rw [Hid, hPB.out]; unfold printB; rw [← hg.out]; rfl
    have e2 : Hid (PE = 2) := by rw [Hid, hPE.out]; unfold printE; rw [← hg.out]; rfl
    go_wp2_with fail
    go_ret2
    exact ⟨none, 0, by rw [e1.out, e2.out]; rfl, by rw [e1.out]; exact Mine.nil _ _, HB0.out.trans (HB1.out.mono HB0.out.size)⟩
  | true =>
    have e1 : Hid (PB = formV V) := by rw [Hid, hPB.out]; unfold printB; rw [← hg.out]; rfl
    have e2 : Hid (PE = 0) := by rw [Hid, hPE.out]; unfold printE; rw [← hg.out]; rfl
    have hcan := can_spec hg.out.symm
    have hlw := win_flat V.ws
    have hlc := ch_flat V.cs
    have hlp := pt_flat V.ps hcan.2.2.2
    have HL : Hid ((V.ws.flatMap bWin).length ≤ 192 ∧ (V.ps.flatMap bPtV).length ≤ 3246 ∧ (V.cs.flatMap bCh).length ≤ 320) := ⟨by omega, by omega, by omega⟩
    clear hcan hlw hlc hlp
    have HN := Lib.hid (newwriter_calls w1)
    go_wp2_with fail
    refine (HN.out).mono ?_
    rintro e w2 ⟨rfl, hW, hb2⟩
    obtain ⟨b, hb⟩ : ∃ b, b = w1.heap.size := ⟨_, rfl⟩
    rw [← hb] at hW
    have hb02 := HB1.out.trans (hb2.mono HB1.out.size)
    have hNb : w0.heap.size ≤ b := by rw [hb]; exact HB1.out.size
    have hb12 : b ≤ w2.heap.size := by rw [hb]; exact hb2.size
    obtain ⟨w3, hw3⟩ : ∃ w3, w3 = w2.alloc (.cells #[.pointer (some ⟨b, 0, none⟩)] 107) := ⟨_, rfl⟩
    obtain ⟨g, hgg⟩ : ∃ g, g = w2.heap.size := ⟨_, rfl⟩
    have hb3 : Below w2.heap.size w2 w3 := by rw [hw3]; exact (Below.refl _ _).alloc (Nat.le_refl _) _
    have hgx : w3.heap[g]? = some (.cells #[.pointer (some ⟨b, 0, none⟩)] 107 (0, 0)) := by rw [hw3, hgg]; exact heap_alloc_new _ _
    have hW3 := hW.stay hb3
    have hb03 := hb02.trans (hb3.mono hb02.size)
    have HW3 := Lib.hid (And.intro hW3 (And.intro hgx hb03))
    have HNB := Lib.hid (And.intro hNb (Nat.le_trans hb12 hb3.size))
    have hk := listW_calls hW3 (Nat.le_trans hb12 hb3.size) g hgx hb03 hNb HV.out.win (by have := HL.out.1; show 0 + 8 + _ ≤ _; omega)
    have HK := Lib.hid hk
    have hp : w3.cell? ⟨g, 0, none⟩ = some (.pointer (some ⟨b, 0, none⟩)) := cells_of hgx 0 rfl
    obtain ⟨c0, c1, c2⟩ := HI.out.keep hb03
    have HGO : Hid (g < w3.heap.size) := (Array.getElem?_eq_some_iff.1 hgx).1
    clear hW hb2 hb02 hNb hb12 hb3 hgx hW3 hb03 hk HN
    go_upto_region 4 with fail
    rw [← hb, ← hw3, ← hgg]
    have HZ3 : Hid (w1.heap.size ≤ w3.heap.size) := by rw [← hb]; exact HNB.out.2
    have HB9 : Hid (b ≤ w1.heap.size) := by rw [hb]; exact Nat.le_refl _
    clear hb hw3 hgg
    go_wp2_with fail
    refine (HK.out).mono ?_
    rintro e w4 ⟨rfl, a4, X4, k4, H4, hW, hS, hN⟩
    have hBel := HW3.out.1.old HNB.out.1
    have hb4 : Below w0.heap.size w0 w4 := HW3.out.2.2.trans (hS.below HW3.out.2.2.size hBel)
    have hgo : Off b none g := ⟨by rintro rfl; have := HW3.out.1.blk; rw [HW3.out.2.1] at this; simp at this, fun e => own_ne HW3.out.1.own HW3.out.2.1 (by decide) e.symm⟩
    have hg4 : w4.heap[g]? = some (.cells #[.pointer (some ⟨b, 0, none⟩)] 107 (0, 0)) := (hS.block g (Array.getElem?_eq_some_iff.1 HW3.out.2.1).1 hgo).trans HW3.out.2.1
    have HW4 := Lib.hid (And.intro hW (And.intro hg4 hb4))
    have HZ4 : Hid (w1.heap.size ≤ w4.heap.size) := Nat.le_trans HZ3.out hS.size
    have hk := listP_calls hW (Nat.le_trans HB9.out HZ4.out) g hg4 hb4 HNB.out.1 HV.out.pts HV.out.img (by have := HL.out.2.1; rw [H4.out]; simp only [List.length_append, List.length_nil, int8_len]; have := HL.out.1; omega)
    have HK := Lib.hid hk
    have hp : w4.cell? ⟨g, 0, none⟩ = some (.pointer (some ⟨b, 0, none⟩)) := cells_of hg4 0 rfl
    obtain ⟨c0, c1, c2⟩ := HI.out.keep hb4
    clear hW hS hN hBel hb4 hgo hg4 hk HW3
    go_wp2_with fail
    refine (HK.out).mono ?_
    rintro e w5 ⟨rfl, a5, X5, k5, H5, hW, hS, hN⟩
    have hBel := HW4.out.1.old HNB.out.1
    have hb5 : Below w0.heap.size w0 w5 := HW4.out.2.2.trans (hS.below HW4.out.2.2.size hBel)
    have hgo : Off b a4 g := ⟨by rintro rfl; have := HW4.out.1.blk; rw [HW4.out.2.1] at this; simp at this, fun e => own_ne HW4.out.1.own HW4.out.2.1 (by decide) e.symm⟩
    have hg5 : w5.heap[g]? = some (.cells #[.pointer (some ⟨b, 0, none⟩)] 107 (0, 0)) := (hS.block g (Array.getElem?_eq_some_iff.1 HW4.out.2.1).1 hgo).trans HW4.out.2.1
    have HW5 := Lib.hid (And.intro hW (And.intro hg5 hb5))
    have HZ5 : Hid (w1.heap.size ≤ w5.heap.size) := Nat.le_trans HZ4.out hS.size
    have hk := listC_calls hW (Nat.le_trans HB9.out HZ5.out) g hg5 hb5 HNB.out.1 HV.out.chs (by have := HL.out.2.2; rw [H5.out, H4.out]; simp only [List.length_append, List.length_nil, int8_len]; have := HL.out.1; have := HL.out.2.1; omega)
    have HK := Lib.hid hk
    have hp : w5.cell? ⟨g, 0, none⟩ = some (.pointer (some ⟨b, 0, none⟩)) := cells_of hg5 0 rfl
    obtain ⟨c0, c1, c2⟩ := HI.out.keep hb5
    clear hW hS hN hBel hb5 hgo hg5 hk HW4
    go_wp2_with fail
    refine (HK.out).mono ?_
    rintro e w6 ⟨rfl, a6, X6, k6, H6, hW, hS, hN⟩
    have hBel := HW5.out.1.old HNB.out.1
    have hb6 : Below w0.heap.size w0 w6 := HW5.out.2.2.trans (hS.below HW5.out.2.2.size hBel)
    have hgo : Off b a5 g := ⟨by rintro rfl; have := HW5.out.1.blk; rw [HW5.out.2.1] at this; simp at this, fun e => own_ne HW5.out.1.own HW5.out.2.1 (by decide) e.symm⟩
    have hg6 : w6.heap[g]? = some (.cells #[.pointer (some ⟨b, 0, none⟩)] 107 (0, 0)) := (hS.block g (Array.getElem?_eq_some_iff.1 HW5.out.2.1).1 hgo).trans HW5.out.2.1
    have HW6 := Lib.hid (And.intro hW (And.intro hg6 hb6))
    have HZ6 : Hid (w1.heap.size ≤ w6.heap.size) := Nat.le_trans HZ5.out hS.size
    have HX : Hid (X6 = PB) := by rw [Hid, e1.out, H6.out, H5.out, H4.out]; simp [formV]
    have hp : w6.cell? ⟨g, 0, none⟩ = some (.pointer (some ⟨b, 0, none⟩)) := cells_of hg6 0 rfl
    have HD := Lib.hid (done_calls hW)
    have HB6 := Lib.hid hb6
    clear hW hS hN hBel hb6 hgo hg6 HW5 c0 c1 c2
    go_wp2_with fail
    refine (HD.out).mono ?_
    rintro e w7 ⟨a7, X7, c7, H7, rfl, hM, hb7⟩
    have HM := Lib.hid hM
    have HB7 := Lib.hid (HB6.out.trans (hb7.mono HB6.out.size))
    have HX7 : Hid (X7 = PB) := by rw [Hid, H7.out, HX.out]
    clear hM hb7
    go_wp2_with fail
    go_ret2
    exact ⟨a7, c7, by rw [← HX7.out, e2.out]; rfl, by rw [← HX7.out]; exact HM.out.low (Nat.le_trans HB0.out.size (Nat.le_trans HB1.out.size HZ6.out)), HB0.out.trans (HB7.out.mono HB0.out.size)⟩
end Go.Proofs.Ytpnbaapjjchlbaa

