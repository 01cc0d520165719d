/- Chapter 15: slot.pieces' iterator: walked. -/
import Derived.Test.YtofagofpeedfcaaGreatSlot1
import Derived.Test.YtofagofpeedfcaaGreatRange2
namespace Go.Proofs.YtofagofpeedfcaaGreat
open Go Go.RowKit Go.Cit Go.Shelf
attribute [local go_sem] Oper.semAt_some

/-- What the rounds keep: the iterator's own cells. -/
def KpS (ca cn cs : Nat) : World → World → Prop := Save (fun k => k = ca ∨ k = cn ∨ k = cs)
/-- The measure of the iterator's loop. -/
def leftS (en : Nat) (ca : Nat) (w : World) : Nat := match w.cell? ⟨ca, 0, none⟩ with | some (.int _ n) => en - n.toNat | _ => 0
theorem leftS_eq {en ca : Nat} {w : World} {b : Nat} (h : w.cell? ⟨ca, 0, none⟩ = some (.int .i64 (b : Int))) : leftS en ca w = en - b := by simp [leftS, h]
set_option maxRecDepth 100000 in
set_option maxHeartbeats 2000000 in
theorem sp_stops (m : Nat) (w : World) (ca cn cs s a n : Nat) (hs : s ≤ 1) (han : a + n ≤ 4096) (h1 : ca ≠ cn) (h2 : ca ≠ cs)
    (hca : w.heap[ca]? = some (.cells #[.int .i64 (a : Int)] 3 (0, 0))) (hcn : w.heap[cn]? = some (.cells #[.int .i64 (n : Int)] 3 (0, 0))) (hcs : w.heap[cs]? = some (.cells #[.int .i64 (s : Int)] 3 (0, 0))) :
    Stops1 Fence.wide m Tryz.prog 58 #[.pointer (some ⟨ca, 0, none⟩), .pointer (some ⟨cn, 0, none⟩), .pointer (some ⟨cs, 0, none⟩)] (fun x : Pc => #[x.v]) (· = ca) (KpS ca cn cs)
      (fun pre x _ => ∃ b, Leads (3 + 64 * s) (a + n) a pre b ∧ b < a + n ∧ x = pcAt (3 + 64 * s) (a + n) b) 4097 (fun xs => Leads (3 + 64 * s) (a + n) a xs (a + n)) (fun _ => True) w := by
  intro L J Jx W hW hJ hJx hY h0
  have hca := (hW.block ca (Array.getElem?_eq_some_iff.1 hca).1).trans hca
  have hcn := (hW.block cn (Array.getElem?_eq_some_iff.1 hcn).1).trans hcn
  have hcs := (hW.block cs (Array.getElem?_eq_some_iff.1 hcs).1).trans hcs
  have hW := hW.size
  have HJ := Lib.hid hJ
  have HJX := Lib.hid hJx
  have HY := Lib.hid hY
  clear hJ hJx hY
  have ka := cell_of_one hca
  have kn := cell_of_one hcn
  refine callsIn_of_wp Tryz.func58 rfl trivial ?_ rfl
  simp only [Tryz.ntmps58, List.size_toArray, List.length_cons, List.length_nil, Nat.reduceAdd, Nat.reduceSub, Array.replicate_succ, Array.replicate_zero, List.push_toArray, List.append_toArray, List.nil_append, List.cons_append]
  gi_wp2
  clear ka kn
  gi_loopw [6] (fun p wr => ∃ (b : Nat) (pre : List Pc), Hid (Leads (3 + 64 * s) (a + n) a pre b) ∧ b ≤ a + n ∧
      wr.heap[ca]? = some (.cells #[.int .i64 (b : Int)] 3 (0, 0)) ∧ wr.heap[cn]? = some (.cells #[.int .i64 (n : Int)] 3 (0, 0)) ∧ wr.heap[cs]? = some (.cells #[.int .i64 (s : Int)] 3 (0, 0)) ∧ J pre wr)
    (fun _ wr => leftS (a + n) ca wr)
  case atStart => exact ⟨a, [], rfl, by omega, hca, hcn, hcs, h0⟩
  case round =>
    clear hca hcn hcs h0
    obtain ⟨b, pre, HL, hb, hca, hcn, hcs, hj⟩ := hrel
    have ka := cell_of_one hca
    have fa := free_of_one hca
    have ks := cell_of_one hcs
    by_cases hlt : b < a + n
    · have t1 : (b : Int) < (a : Int) + (n : Int) := by omega
      have q1 : (b : Int).tmod 64 = ((b % 64 : Nat) : Int) := by rw [Int.tmod_eq_emod_of_nonneg (by omega)]; omega
      have q2 : (b : Int).tdiv 64 = ((b / 64 : Nat) : Int) := by rw [Int.tdiv_eq_ediv_of_nonneg (by omega)]; omega
      have hv : (pcAt (3 + 64 * s) (a + n) b).v = .agg #[.int .i64 (3 + (s : Int) * 64 + (b : Int) / 64), .int .i64 ((b : Int) % 64), .int .i64 (min 64 ((b : Int) % 64 + ((a : Int) + (n : Int)) - (b : Int)))] := by
        have e1 : ((3 + 64 * s + b / 64 : Nat) : Int) = 3 + (s : Int) * 64 + (b : Int) / 64 := by omega
        have e2 : ((b % 64 : Nat) : Int) = (b : Int) % 64 := by omega
        have e3 : ((min 64 (b % 64 + (a + n) - b) : Nat) : Int) = min 64 ((b : Int) % 64 + ((a : Int) + (n : Int)) - (b : Int)) := by omega
        show Value.agg #[.int .i64 ((3 + 64 * s + b / 64 : Nat) : Int), .int .i64 ((b % 64 : Nat) : Int), .int .i64 ((min 64 (b % 64 + (a + n) - b) : Nat) : Int)] = _
        rw [e1, e2, e3]
      obtain ⟨fn, tmps, assign, body, hy, hR⟩ := HY.out pre (pcAt (3 + 64 * s) (a + n) b) wr hj (by have := HL.out.le.1; omega) ⟨b, HL.out, hlt, rfl⟩
      rw [hv] at hy
      have HN : Hid (pcNext (a + n) b = b + (min 64 (b % 64 + (a + n) - b) - b % 64)) := rfl
      have HNL := Lib.hid (pcNext_le hlt)
      have HLC : Hid (leftS (a + n) ca wr = a + n - b) := leftS_eq ka
      gi_wp2
      refine ⟨fun h => (by cases h), hR.mono ?_⟩
      rintro e W3 (⟨rfl, hJ3, hk3⟩ | ⟨rfl, hJ3⟩)
      · have ha3 : W3.heap[ca]? = some (.cells #[.int .i64 (b : Int)] 3 (0, 0)) := (hk3.block _ (Array.getElem?_eq_some_iff.1 hca).1 (.inl rfl)).trans hca
        have hn3 : W3.heap[cn]? = some (.cells #[.int .i64 (n : Int)] 3 (0, 0)) := (hk3.block _ (Array.getElem?_eq_some_iff.1 hcn).1 (.inr (.inl rfl))).trans hcn
        have hs3 : W3.heap[cs]? = some (.cells #[.int .i64 (s : Int)] 3 (0, 0)) := (hk3.block _ (Array.getElem?_eq_some_iff.1 hcs).1 (.inr (.inr rfl))).trans hcs
        have ka3 := cell_of_one ha3
        have fa3 := free_of_one ha3
        have HJ3 := Lib.hid hJ3
        clear hca hcn hcs ka fa ks hR hk3 hJ3 hy hv
        gi_wp2
        have ev : Value.int IntKind.i64 ((b : Int) + (min 64 ((b : Int) % 64 + ((a : Int) + (n : Int)) - (b : Int)) - (b : Int) % 64)) = .int .i64 ((pcNext (a + n) b : Nat) : Int) := by congr 1; rw [HN.out]; omega
        rw [ev]
        have hset := one_setCell ha3 (u := .int .i64 ((pcNext (a + n) b : Nat) : Int))
        go_roundw
        case rel =>
          refine ⟨pcNext (a + n) b, pre ++ [pcAt (3 + 64 * s) (a + n) b], HL.out.snoc hlt, HNL.out.2, hset, (Below.heap_setCell _ _ _ _ (Ne.symm h1)).trans hn3, (Below.heap_setCell _ _ _ _ (Ne.symm h2)).trans hs3, ?_⟩
          exact HJ.out _ _ _ (some ca) HJ3.out (grownBy_setCell' W3 ca _) (fun r e => by cases e; rfl)
        case measure =>
          rw [leftS_eq (cell_of_one hset), HLC.out]
          have := HNL.out
          omega
      · have HJ3 := Lib.hid hJ3
        clear hca hcn hcs ka fa ks hR hJ3 hy hv
        gi_wp2
        exact ⟨rfl, _, results_none rfl _ _ _, ⟨_, rfl⟩, .inr ⟨_, trivial, HJ3.out⟩⟩
    · have he : b = a + n := by omega
      have HLE : Hid (Leads (3 + 64 * s) (a + n) a pre (a + n)) := by have h9 := HL.out; rw [he] at h9; exact h9
      have t1 : ¬ (b : Int) < (a : Int) + (n : Int) := by omega
      gi_wp2
      go_end0
      exact ⟨⟨_, rfl⟩, .inl ⟨pre, HLE.out, hj⟩⟩
end Go.Proofs.YtofagofpeedfcaaGreat
