/- sha.primes: walked. -/
import Derived.Test.YtiemafgnpmoblaaRefOrder
import Derived.Test.YtiemafgnpmoblaaSave
import Derived.IntWalk
import Derived.Maps.AppendAt
import Derived.RangeFuncBox
namespace Go.Proofs.Ytiemafgnpmoblaa
open Go Go.RowKit Go.Cit

/-- No number of l divides x. -/
def noneDiv (l : List Nat) (x : Nat) : Bool := l.foldl (fun b p => b && decide (x % p ≠ 0)) true
/-- The primes below x. -/
def prm : Nat → List Nat
  | 0 => []
  | x + 1 => if 2 ≤ x ∧ noneDiv (prm x) x = true then prm x ++ [x] else prm x
theorem prm_pos : ∀ x, ∀ p ∈ prm x, 2 ≤ p ∧ p < x
  | 0, p, h => by simp [prm] at h
  | x + 1, p, h => by
    rw [prm] at h
    split at h
    · rename_i hx
      rcases List.mem_append.1 h with h | h
      · have := prm_pos x p h; omega
      · obtain rfl : p = x := by simpa using h
        omega
    · have := prm_pos x p h; omega
theorem prm_pre : ∀ (d x : Nat), prm x <+: prm (x + d)
  | 0, x => List.prefix_refl _
  | d + 1, x => by
    refine List.IsPrefix.trans (prm_pre d x) ?_
    rw [← Nat.add_assoc, prm]
    split
    · exact List.prefix_append _ _
    · exact List.prefix_refl _
theorem prm_len (x : Nat) : (prm x).length ≤ x := by
  induction x with
  | zero => simp [prm]
  | succ x ih =>
    rw [prm]
    split
    · rw [List.length_append]; simp; omega
    · omega

@[reducible] def vn (n : Nat) : Value := .int .u64 (n : Int)
theorem infoQ : (Try.prog.info? 53).map (fun i => (i.zero, i.size, i.bytes)) = some (some (.int .u64 0), 1, 8) := by kernel_rfl
theorem szQ : ∀ w, (sizeOf 53).run Try.prog w = .ok 1 w := by intro w; kernel_rfl

/-- A slice of numbers of the call's own. -/
structure Qs (B : Nat) (w : World) (a : Option Addr) (l : List Nat) (c : Nat) : Prop where
  row : w.ownsRow B 53 1 (.slice a l.length c) l.length (l.map vn)
theorem Qs.cell {B w a l c} (h : Qs B w a l c) (i : Nat) (hi : i < l.length) : ∃ g, a = some ⟨g, 0, none⟩ ∧ w.cell? ⟨g, i, none⟩ = some (vn l[i]) := by
  rcases h.row.2 with ⟨hv, hn⟩ | ⟨g, cap, cur, hv, hb, hg, _⟩
  · omega
  · injection hv with h1 h2 h3
    refine ⟨g, h1, ?_⟩
    have := h.row.cells (g := g) (by rw [h1]; rfl) i (vn l[i]) (by simp [hi])
    have ea : (⟨g, 0, none⟩ : Addr).add i = ⟨g, i, none⟩ := by unfold Addr.add; split <;> simp_all
    rwa [ea] at this
theorem Qs.index {B w a l c} (h : Qs B w a l c) (i : Nat) (hi : i < l.length) :
    ∀ w, (Instr.indexAt 72 (.slice a l.length c) (.int .i64 (i : Int))).run Try.prog w = .ok (.pointer (some (ad a i))) w := by
  intro w
  obtain ⟨g, rfl, _⟩ := h.cell i hi
  have hT : Try.prog.underlying 72 = some (.slice 53) := Try.underlying72
  have he : Try.prog.elem 72 = 53 := by simp [Program.elem, hT]
  rw [run_indexAt_slice w _ _ _ _ _ _ (by rw [he]; exact hT), if_pos (by omega), he, szQ]
  simp only [Result.andThen, ad, Addr.add]
  by_cases h0 : i = 0
  · subst h0; simp
  · simp [h0]
theorem Qs.save {S : Nat → Prop} {B w w' a l c} (h : Qs B w a l c) (hs : Save S w w') (hS : ∀ g, B ≤ g → g < w.heap.size → S g) : Qs B w' a l c := by
  refine ⟨h.row.1, ?_⟩
  rcases h.row.2 with hn | ⟨g, cap, cur, hv, hb, hg, rest⟩
  · exact .inl hn
  · have hlt := (Array.getElem?_eq_some_iff.1 hg).1
    exact .inr ⟨g, cap, cur, hv, hb, (hs.block g hlt (hS g hb hlt)).trans hg, rest⟩

theorem fold_false (x : Nat) : ∀ l : List Nat, l.foldl (fun b p => b && decide (x % p ≠ 0)) false = false
  | [] => rfl
  | p :: l => by rw [List.foldl_cons, Bool.false_and]; exact fold_false x l

set_option maxHeartbeats 2000000 in
theorem primes_calls (w : World) (n X : Nat) (hX : (prm X).length = n) (h9 : X ≤ 1000) (h2 : 2 ≤ X) :
    Calls Try.prog 50 #[.int .i64 n] w fun e w' => ∃ a c, e = .returned (.slice a n c) ∧ Qs w.heap.size w' a (prm X) c ∧ Below w.heap.size w w' := by
  have hn9 : n ≤ 1000 := by have := prm_len X; omega
  obtain ⟨ie, hi, hz0, hz1, hz2⟩ := info_parts infoQ
  go_enter Try.func50, Try.ntmps50
  go_wp2_with fail
  go_loopw [3, 4] (fun v q wr => ∃ (x : Nat) (a : Option Addr) (c : Nat) (l : List Nat), 2 ≤ x ∧ x ≤ X ∧ q = .int .u64 x ∧ Hid (l = prm x) ∧ v = .slice a l.length c ∧ Qs w.heap.size wr a l c ∧ Below w.heap.size w wr) (fun _ q _ => X - (intOf q).toNat)
  case atStart => exact ⟨2, none, 0, [], Nat.le_refl _, h2, rfl, rfl, rfl, ⟨World.ownsRow_nil _ _ _ _⟩, Below.refl _ _⟩
  case round =>
    obtain ⟨x, a, c, l, hx2, hxX, rfl, HL, rfl, hQ, B⟩ := hrel
    have hll : l.length ≤ 1000 := by rw [HL.out]; have := prm_len x; omega
    by_cases hlt : l.length < n
    · have hxlt : x < X := by
        rcases Nat.lt_or_ge x X with h | h
        · exact h
        · exfalso
          have : x = X := by omega
          rw [HL.out, this, hX] at hlt; omega
      have d1 : decide ((l.length : Int) < (n : Int)) = true := by simp; omega
      have d1' : decide (l.length < n) = true := by simpa using hlt
      go_wp2_with fail
      go_loop [5, 16] (fun b i => ∃ (k : Nat) (r : Bool), k ≤ l.length ∧ i = .int .i64 k ∧ b = .bool r ∧ Hid (r = (l.take k).foldl (fun b p => b && decide (x % p ≠ 0)) true)) (fun _ i => l.length - (intOf i).toNat)
      case atStart => exact ⟨0, true, Nat.zero_le _, rfl, rfl, rfl⟩
      case round =>
        obtain ⟨k, r, hk, rfl, rfl, HR⟩ := hrel
        by_cases hk2 : k < l.length
        · obtain ⟨g, rfl, hcell⟩ := hQ.cell k hk2
          have i0 := hQ.index k hk2
          have e0 : wr.cell? (ad (some ⟨g, 0, none⟩) k) = some (vn l[k]) := by simpa [ad] using hcell
          have hp := prm_pos x l[k] (by rw [← HL.out]; exact List.getElem_mem hk2)
          have HS : Hid ((l.take (k + 1)).foldl (fun b p => b && decide (x % p ≠ 0)) true = (r && decide (x % l[k] ≠ 0))) := by
            rw [Hid, List.take_succ_eq_append_getElem hk2, List.foldl_append, ← HR.out]; rfl
          obtain ⟨q, hq⟩ : ∃ q, l[k] = q := ⟨_, rfl⟩
          rw [hq] at e0 hp HS
          clear hq hcell
          have hp2 : (2 : Int) ≤ q := by omega
          have hpx : (q : Int) ≤ 1000 := by omega
          cases hd : decide (x % q ≠ 0) with
          | true =>
            rw [hd] at HS
            have m1 : (((x : Int) % (q : Int)) != 0) = true := by
              have := of_decide_eq_true hd
              simp only [bne_iff_ne]; intro h; apply this; omega
            have HD := Lib.hid hd
            clear hd
            cases r <;>
            (go_wp2_with fail
             go_round
             case rel => exact ⟨k + 1, _, by omega, by go_num, rfl, by rw [Hid, HS.out]; rfl⟩
             case measure => simp [intOf]; omega)
          | false =>
            rw [hd] at HS
            have m1 : (((x : Int) % (q : Int)) != 0) = false := by
              have := of_decide_eq_false hd
              simp only [bne_eq_false_iff_eq]
              omega
            have HD := Lib.hid hd
            clear hd
            cases r <;>
            (go_wp2_with fail
             go_round
             case rel => exact ⟨k + 1, _, by omega, by go_num, rfl, by rw [Hid, HS.out]; rfl⟩
             case measure => simp [intOf]; omega)
        · have hk3 : k = l.length := by omega
          have HR2 : Hid (r = noneDiv l x) := by rw [Hid, HR.out, hk3, List.take_length]; rfl
          clear HR hk3
          cases r with
          | true =>
            have HP : Hid (l ++ [x] = prm (x + 1)) := by rw [Hid, prm, if_pos ⟨hx2, by rw [← HL.out, ← HR2.out]⟩, HL.out]
            have hb5 : w.heap.size ≤ (wr.alloc (.cells #[vn x] 53)).heap.size := by have := B.size; simp; omega
            have hm5 : l.length + 1 ≤ maxLen := by unfold maxLen; omega
            go_wp2_with (at_builtin; refine wpList_append_own _ rfl (.tmp 29) (.tmp 31) 72 rfl w.heap.size 53 ie (.int .u64 0) 1 8 Try.underlying72 hi hz0 hz1 hz2 rfl (by decide) _ l.length (l.map vn) rfl (hQ.row.alloc _) ⟨wr.heap.size, 0, none⟩ 1 1 [vn x] rfl rfl (cell_one_new _ _ _) (by simp [Value.oneCell']) hm5 (by omega) hb5 ?_; intro v' w5 hown5 hgr5 _; obtain ⟨g5, cap5, rfl⟩ := ownsRow_succ hown5)
            go_roundw
            case rel =>
              refine ⟨x + 1, some ⟨g5, 0, none⟩, cap5, l ++ [x], by omega, by omega, by go_num, HP, by simp, ⟨?_⟩, ((B.alloc B.size _).grown hgr5 hb5 (fun j e => (hQ.row.lt j e).1))⟩
              rw [List.length_append, List.map_append]; exact hown5
            case measure => simp [intOf]; omega
          | false =>
            have HP : Hid (l = prm (x + 1)) := by rw [Hid, prm, if_neg (by rw [← HL.out, ← HR2.out]; simp), HL.out]
            go_wp2_with fail
            go_roundw
            case rel => exact ⟨x + 1, a, c, l, by omega, by omega, by go_num, HP, rfl, hQ, B⟩
            case measure => simp [intOf]; omega
    · have d1 : decide ((l.length : Int) < (n : Int)) = false := by simp; omega
      have HF : Hid (l = prm X ∧ l.length = n) := by
        obtain ⟨t, ht⟩ := prm_pre (X - x) x
        rw [show x + (X - x) = X by omega, ← HL.out] at ht
        have h1 := congrArg List.length ht
        rw [List.length_append, hX] at h1
        have : t = [] := List.eq_nil_of_length_eq_zero (by omega)
        rw [this, List.append_nil] at ht
        exact ⟨ht, by rw [ht, hX]⟩
      go_wp2_with fail
      go_ret
      refine ⟨a, c, by rw [← HF.out.2]; rfl, by rw [← HF.out.1]; exact hQ, B⟩
end Go.Proofs.Ytiemafgnpmoblaa
