/- ShaChained: the walk of the law. -/
import Derived.Test.YtiemafgnpmoblaaShaAwake
import Derived.Test.YtiemafgnpmoblaaGf
namespace Go.Proofs.Ytiemafgnpmoblaa
open Go Go.RowKit Go.Cit

theorem chN_more (ls : List (List UInt8)) (x : List UInt8) : chN (ls ++ [x]) (ls.length + 1) = sumB ((if ls.length = 0 then [] else chN ls ls.length) ++ x) := by
  have h := chN_take (ls ++ [x]) ls.length ls.length (Nat.le_refl _) (by simp)
  rw [List.take_left] at h
  rw [chN, h]
  simp

theorem chained_far (w : World) (a0 : Option Addr) (ds : List (Sl UInt8)) (c0 : Nat) (a1 : Option Addr) (b : List UInt8) (c1 : Nat) (h0 : Rows w a0 ds c0) (hfar : 8 < ds.length) (hb9 : b.length ≤ 9223372036854775807) :
    Calls Try.prog 6 #[.slice a0 ds.length c0, .slice a1 b.length c1] w fun e w' => e = .returned (.bool true) ∧ Below w.heap.size w w' := by
  have HAW := Lib.hid (shaAwake_calls w)
  have hlen := h0.len_le
  go_enter Try.func6, Try.ntmps6
  go_wp2_with fail
  refine HAW.out.mono ?_
  rintro e w1 ⟨rfl, B1⟩
  have h1 := h0.stay B1
  go_wp2_with fail
  go_loop [5, 6] (fun m i => ∃ (k : Nat) (n : Int), k ≤ ds.length ∧ i = .int .i64 k ∧ m = .int .i64 n) (fun _ i => ds.length - (intOf i).toNat)
  case atStart => exact ⟨0, _, Nat.zero_le _, rfl, rfl⟩
  case round =>
    obtain ⟨k, n, hk, rfl, rfl⟩ := hrel
    by_cases hlt : k < ds.length
    · have d1 : decide (k < ds.length) = true := by simpa using hlt
      have i0 := h1.index k hlt
      have e0 := h1.cell k hlt
      go_wp2_with fail
      go_round
      case rel => exact ⟨k + 1, _, by omega, by go_num, rfl⟩
      case measure => simp [intOf]; omega
    · have d1 : decide (k < ds.length) = false := by simpa using hlt
      have d3 : decide ((8 : Int) < (ds.length : Int)) = true := by simp; omega
      have d3' : decide (8 < ds.length) = true := by simpa using hfar
      by_cases hm : 600 < n
      · have d2 : decide (600 < n) = true := by simpa using hm
        go_wp2_with fail
        go_ret
        exact ⟨rfl, B1⟩
      · have d2 : decide (600 < n) = false := by simpa using hm
        go_wp2_with fail
        go_ret
        exact ⟨rfl, B1⟩

/-- A slice of two parts. -/
def twoP (vs vb_ : Value) : Ty := .pr (fun v w => ∃ g, v = .slice (some ⟨g, 0, none⟩) 2 2 ∧ w.cell? ⟨g, 0, none⟩ = some vs ∧ w.cell? ⟨g, 1, none⟩ = some vb_) (fun _ _ _ hg ⟨g, h1, h2, h3⟩ => ⟨g, h1, hg.cell _ _ h2, hg.cell _ _ h3⟩)
/-- What is said of each slot of the law's last statement. -/
def chdT (L : List UInt8) (va vs vb_ : Value) (D : Array Value) : Nat → Ty
  | 54 => .val va
  | 55 => .val (.agg D)
  | 56 => .val vs
  | 57 => .val vb_
  | 58 => twoP vs vb_
  | 59 => .row L
  | 60 => .val (.agg D)
  | _ => .val (.bool true)
/-- Two parts that lie anywhere. -/
theorem cat_two (W : World) (g : Nat) {a1 a2 : Option Addr} {l1 l2 : List UInt8} {c1 c2 : Nat} (h1 : W.cell? ⟨g, 0, none⟩ = some (.slice a1 l1.length c1)) (h2 : W.cell? ⟨g, 1, none⟩ = some (.slice a2 l2.length c2)) (r1 : Row W a1 l1 c1) (r2 : Row W a2 l2 c2) (hl : l1.length ≤ 300000000) (hl2 : l2.length ≤ 300000000) :
    Calls Try.prog 31 #[.slice (some ⟨g, 0, none⟩) 2 2] W fun e w' => ∃ a cp, e = .returned (.slice a (l1 ++ l2).length cp) ∧ Mine W.heap.size w' a (l1 ++ l2) cp ∧ Below W.heap.size W w' := by
  have hP : Lib.PartsAt W ⟨g, 0, none⟩ [.slice a1 l1.length c1, .slice a2 l2.length c2] [l1, l2] := by
    refine ⟨rfl, fun i v hv => ?_, fun i v l hv hl => ?_⟩
    · match i with
      | 0 => simp at hv; subst hv; simpa [Addr.add] using h1
      | 1 => simp at hv; subst hv; simpa [Addr.add] using h2
      | i + 2 => simp at hv
    · match i with
      | 0 => simp at hv hl; subst hv hl; exact holds_of_row r1
      | 1 => simp at hv hl; subst hv hl; exact holds_of_row r2
      | i + 2 => simp at hv
  refine (cat_calls W g 0 2 _ _ hP (by simp) (by simp; omega) (by simp)).mono ?_
  rintro e w' ⟨a, cp, rfl, hm, hb⟩
  simp only [List.flatten_cons, List.flatten_nil, List.append_nil] at hm ⊢
  exact ⟨a, cp, rfl, hm, hb⟩
theorem chd_cat {B : Nat} {wx : World} {o : Oper} {ρ : Operand → Value} {x : Tmp} {a1 a2 : Option Addr} {l1 l2 : List UInt8} {n1 n2 c1 c2 : Nat} (hB : B ≤ wx.heap.size) (h : o.op = .call { callee := .value (.func 31), args := #[.tmp x], argTypes := #[46] })
    (hf : ρ (.func 31) = .func (.func 31) #[] #[]) (hs : (twoP (.slice a1 n1 c1) (.slice a2 n2 c2)).ok (ρ (.tmp x)) wx) (hn1 : n1 = l1.length) (hn2 : n2 = l2.length) (r1 : Row wx a1 l1 c1) (r2 : Row wx a2 l2 c2) (hl : l1.length ≤ 300000000) (hl2 : l2.length ≤ 300000000) {T : Ty} (hT : T = .row (l1 ++ l2)) : Gives Try.prog B wx T ((execOp ρ o).run Try.prog wx) := by
  obtain ⟨g, hv, h1, h2⟩ := hs
  subst hT hn1 hn2
  exact g_call hB h hf #[.slice (some ⟨g, 0, none⟩) 2 2] (fun w => by kernel_rfl) (by simp [hv]) ((cat_two wx g h1 h2 r1 r2 hl hl2).mono fun e w3 ⟨a, c, he, hm, hd⟩ => ⟨_, he, hd, _, _, rfl, hm.row⟩)
theorem chd_sum {B : Nat} {wx : World} {o : Oper} {ρ : Operand → Value} {x : Tmp} {L : List UInt8} {D : Array Value} (hB : B ≤ wx.heap.size) (h : o.op = .call { callee := .value (.func 22), args := #[.tmp x], argTypes := #[25] })
    (hf : ρ (.func 22) = .func (.func 22) #[] #[]) (hs : (Ty.row L).ok (ρ (.tmp x)) wx) (hl : L.length ≤ 10000000) (hD : D = ((sumB L).map vb).toArray) {T : Ty} (hT : T = .val (.agg D)) : Gives Try.prog B wx T ((execOp ρ o).run Try.prog wx) := by
  obtain ⟨a, c, hv, hr⟩ := hs
  subst hT hD
  exact g_call hB h hf #[.slice a L.length c] (fun w => by kernel_rfl) (by simp [hv]) ((sum_calls wx a L c hr hl).mono fun e w3 ⟨he, hd⟩ => ⟨_, he, hd, rfl⟩)
theorem chd_build {B : Nat} {wx : World} {o : Oper} {ρ : Operand → Value} {x y : Tmp} {vs vb_ : Value} (hB : B ≤ wx.heap.size) (h : o.op = .buildSlice 46 2 #[(0, .tmp x), (1, .tmp y)]) (h1 : (Ty.val vs).ok (ρ (.tmp x)) wx) (h2 : (Ty.val vb_).ok (ρ (.tmp y)) wx) (hc1 : vs.cells.size = 1) (hc2 : vb_.cells.size = 1) (e1 : vs.cells.toList = [vs]) (e2 : vb_.cells.toList = [vb_]) {T : Ty} (hT : T = twoP vs vb_) : Gives Try.prog B wx T ((execOp ρ o).run Try.prog wx) := by
  subst hT
  have hr := run_vbuild rowsT (ρ := ρ) (o := o) [.tmp x, .tmp y] [vs, vb_] 2 (by rw [h]; rfl) (by simp [show ρ (.tmp x) = _ from h1, show ρ (.tmp y) = _ from h2]) rfl (by decide) (by intro v hv; simp at hv; rcases hv with rfl | rfl <;> assumption) (by decide) wx
  refine g_lay hB _ _ hr ((Below.refl _ _).alloc (Nat.le_refl _) _) ⟨wx.heap.size, rfl, ?_, ?_⟩
  · rw [World.cell?, heap_alloc_new]; simp [e1, e2]
  · rw [World.cell?, heap_alloc_new]; simp [e1, e2]
theorem chd_slice {B : Nat} {wx : World} {o : Oper} {ρ : Operand → Value} {x : Tmp} {g : Nat} (h : o.op = .slice 36 (.tmp x) none none none) (hx : ρ (.tmp x) = .pointer (some ⟨g, 0, none⟩)) {T : Ty} (hT : T = .val (.slice (some ⟨g, 0, none⟩) 32 32)) : Gives Try.prog B wx T ((execOp ρ o).run Try.prog wx) := by
  subst hT
  exact g_slice h hx rfl rfl rfl (tag_all g) rfl

set_option maxRecDepth 100000 in
set_option maxHeartbeats 4000000 in
theorem chained_near (w : World) (a0 : Option Addr) (ds : List (Sl UInt8)) (c0 : Nat) (a1 : Option Addr) (b : List UInt8) (c1 : Nat) (h0 : Rows w a0 ds c0) (hc : ∀ d ∈ ds, d.l.length ≤ 140737488351232) (hb : Row w a1 b c1) (hcb : c1 ≤ 140737488351232) (hn : ds.length ≤ 8) :
    Calls Try.prog 6 #[.slice a0 ds.length c0, .slice a1 b.length c1] w fun e w' => e = .returned (.bool true) ∧ Below w.heap.size w w' := by
  have HAW := Lib.hid (shaAwake_calls w)
  have HT : Hid (∀ k, k ≤ ds.length → totB (ds.take k) ≤ 1407374883512320) := fun k hk => by
    have h1 := totB_le (ds.take k) _ (fun d hd => hc d (List.mem_of_mem_take hd))
    rw [List.length_take] at h1
    have : min k ds.length * 140737488351232 ≤ 10 * 140737488351232 := Nat.mul_le_mul (by omega) (Nat.le_refl _)
    omega
  have hbl : b.length ≤ 140737488351232 := Nat.le_trans hb.le hcb
  have HC := Lib.hid hc
  have HB0 := Lib.hid hb
  clear hc hb
  go_enter Try.func6, Try.ntmps6
  go_wp2_with fail
  refine HAW.out.mono ?_
  rintro e w1 ⟨rfl, B1⟩
  have h1 := h0.stay B1
  have HB1 := Lib.hid (HB0.out.stay B1)
  clear h0 HB0
  go_wp2_with fail
  go_loop [5, 6] (fun m i => ∃ (k n : Nat), k ≤ ds.length ∧ i = .int .i64 k ∧ Hid (n = b.length + totB (ds.take k)) ∧ n ≤ 1548112371863552 ∧ m = .int .i64 n) (fun _ i => ds.length - (intOf i).toNat)
  case atStart => exact ⟨0, b.length, Nat.zero_le _, rfl, rfl, by omega, rfl⟩
  case round =>
    obtain ⟨k, n, hk, rfl, HN, hn9, rfl⟩ := hrel
    by_cases hlt : k < ds.length
    · have d1 : decide (k < ds.length) = true := by simpa using hlt
      have i0 := h1.index k hlt
      have e0 := h1.cell k hlt
      have HS : Hid (n + ds[k].l.length = b.length + totB (ds.take (k + 1))) := by rw [Hid, HN.out, totB_take ds k hlt]; omega
      have hl := HC.out ds[k] (List.getElem_mem hlt)
      have hs9 := HT.out (k + 1) hlt
      have hs8 : n + ds[k].l.length ≤ 1548112371863552 := by rw [HS.out]; omega
      generalize ds[k] = d at e0 HS hl hs8
      clear hs9
      go_wp2_with fail
      go_round
      case rel => exact ⟨k + 1, n + d.l.length, by omega, by go_num, HS, hs8, by go_num⟩
      case measure => simp [intOf]; omega
    · have d1 : decide (k < ds.length) = false := by simpa using hlt
      have hk2 : k = ds.length := by omega
      by_cases hm : 600 < n
      · have d2 : decide (600 < n) = true := by simpa using hm
        go_wp2_with fail
        go_ret
        exact ⟨rfl, B1⟩
      · have d2 : decide ((600 : Int) < (n : Int)) = false := by simp; omega
        have d2' : decide (600 < n) = false := by simpa using hm
        have d3 : decide ((8 : Int) < (ds.length : Int)) = false := by simp; omega
        have d3' : decide (8 < ds.length) = false := by simp; omega
        have hnt : n = b.length + totB ds := by rw [HN.out, hk2, List.take_length]
        have hb6 : b.length ≤ 600 := by omega
        have HL6 : Hid (∀ d ∈ ds, d.l.length ≤ 600) := fun d hd => by have h1 := totB_one ds d hd; omega
        have HV1 := Lib.hid h1.vec
        have hmk : ((ds.length : Int) + 1) = ((ds.length + 1 : Nat) : Int) := by omega
        have HMK := Lib.hid hmk
        clear hk2 hnt hmk HT HC
        by_cases hz0 : ds.length = 0
        · have z1 : ((ds.length : Int) == 0) = true := by rw [beq_iff_eq]; omega
          have z1' : (ds.length == 0) = true := by rw [beq_iff_eq]; exact hz0
          have HZ0 := Lib.hid hz0
          clear hz0
          go_wp2_with (first
            | ((with_reducible refine wpList_vmake0 (f := sf) (o := ⟨some 36, .makeSlice _ _ _, _, _, _, _⟩) rowsT (.const (.int .i64 0)) (.tmp 35) (by with_unfolding_all rfl) (by with_unfolding_all rfl) (ds.length + 1) .i64 .i64 (by with_unfolding_all rfl) (by with_unfolding_all rfl) HMK.out (by omega) ?_); intro w2 hO2 hg2 hz2; have B2' : Hid (Below w1.heap.size w1 w2) := Lib.hid (grown_below hg2 (Nat.le_refl _) (fun k hk => by simp at hk)); have HV2 := Lib.hid (HV1.out.stay sf_len B2'.out); clear hg2)
            | ((with_reducible refine wpList_vappany (o := ⟨some 39, .call _, _, _, _, _⟩) rowsT sf_len sf_one (.tmp 37) (.tmp 38) (by with_unfolding_all rfl) (by with_unfolding_all rfl) hO2 HV2.out (by simp; omega) B2'.out.size (by with_unfolding_all rfl) (by with_unfolding_all rfl) ?_); intro a3 c3 w3 hO3 hg3; have B3' := Lib.hid (hO2.grown hg3 B2'.out.size); rw [List.nil_append] at hO3)
            | ((with_reducible refine wpList_vapp1 (o := ⟨some 43, .call _, _, _, _, _⟩) rowsT sf_len sf_one (y := (⟨a1, c1, b⟩ : Sl UInt8)) (.tmp 40) (.tmp 42) (by with_unfolding_all rfl) (by with_unfolding_all rfl) hO3 (by with_unfolding_all rfl) (by omega) (Nat.le_trans B2'.out.size B3'.out.size) (by with_unfolding_all rfl) (by with_unfolding_all rfl) ?_); intro a4 c4 w4 hO4 hg4 hn4))
          have B4' : Below w1.heap.size w1 w4 := B2'.out.trans (B3'.out.trans (hO3.grown hg4 (Nat.le_trans B2'.out.size B3'.out.size)))
          have HRA := Lib.hid (rows_vec (hO4.vec sf_len) (fun d hd => by
            rcases List.mem_append.1 hd with h | h
            · exact (h1.row d h).stay B4'
            · obtain rfl := List.mem_singleton.1 h; exact HB1.out.stay B4'))
          have HR0 := Lib.hid (h1.stay B4')
          have HBR := Lib.hid (HB1.out.stay B4')
          have B4 := B1.trans (B4'.mono B1.size)
          obtain ⟨ls, hls⟩ : ∃ ls, Hid (ls = ds.map (·.l)) := ⟨_, rfl⟩
          have HLS : Hid (ls.length = ds.length) := by rw [Hid, hls.out, List.length_map]
          have hcc := fun wx (hb : Below w4.heap.size w4 wx) => chain_calls wx a4 (ds ++ [(⟨a1, c1, b⟩ : Sl UInt8)]) c4 (HRA.out.stay hb) (fun d hd => by
            rcases List.mem_append.1 hd with h | h
            · have := HL6.out d h; omega
            · obtain rfl := List.mem_singleton.1 h; show b.length ≤ 1000000; omega)
          have hmap : (ds ++ [(⟨a1, c1, b⟩ : Sl UInt8)]).map (·.l) = ls ++ [b] := by rw [List.map_append, hls.out]; rfl
          have hlen1 : (ds ++ [(⟨a1, c1, b⟩ : Sl UInt8)]).length = ls.length + 1 := by rw [List.length_append, HLS.out]; rfl
          rw [hmap, hlen1, chN_more, HLS.out] at hcc
          clear hO2 hz2 HV2 hO3 hg3 B3' hO4 hg4 hn4 B2' hmap hlen1 B4'
          rw [if_pos HZ0.out, List.nil_append] at hcc
          obtain ⟨D, hD⟩ : ∃ D, Hid (D = ((sumB b).map vb).toArray) := ⟨_, rfl⟩
          rw [← hD.out] at hcc
          have HCHA := Lib.hid hcc
          have HEQD : Hid (∀ w, (Op.equalIn 10000 36 (.agg D) (.agg D)).run Try.prog w = .ok true w) := by
            intro w; rw [hD.out, run_eq_bytes tagT _ _ (sumB_len _) (sumB_len _)]; simp
          clear hcc
          refine (HCHA.out _ (Below.refl _ _)).mono ?_
          rintro e w5 ⟨rfl, hb5⟩
          have B5 := B4.trans (hb5.mono B4.size)
          have HSB := Lib.hid (sum_calls w5 a1 b c1 (HBR.out.stay hb5) (by omega))
          rw [← hD.out] at HSB
          clear hb5 B4
          go_wp2_with fail
          refine HSB.out.mono ?_
          rintro e w6 ⟨rfl, hb6⟩
          have B6 := B5.trans (hb6.mono B5.size)
          clear hb6
          go_wp2_with (first
            | ((with_reducible refine wpList_value (o := ⟨some 51, .binOp _ _ _ _ _, _, _, _, _⟩) (by with_unfolding_all rfl) (exec_bin (by with_unfolding_all rfl) (by with_unfolding_all rfl) (by with_unfolding_all rfl) (run_eql_op tagT.guard _ _ HEQD.out) _) ?_)))
          go_ret
          exact ⟨rfl, B6⟩
        · have z1 : ((ds.length : Int) == 0) = false := by rw [beq_eq_false_iff_ne]; omega
          have z1' : (ds.length == 0) = false := by rw [beq_eq_false_iff_ne]; exact hz0
          have HZ0 := Lib.hid hz0
          clear hz0
          go_wp2_with (first
            | ((with_reducible refine wpList_vmake0 (f := sf) (o := ⟨some 36, .makeSlice _ _ _, _, _, _, _⟩) rowsT (.const (.int .i64 0)) (.tmp 35) (by with_unfolding_all rfl) (by with_unfolding_all rfl) (ds.length + 1) .i64 .i64 (by with_unfolding_all rfl) (by with_unfolding_all rfl) HMK.out (by omega) ?_); intro w2 hO2 hg2 hz2; have B2' : Hid (Below w1.heap.size w1 w2) := Lib.hid (grown_below hg2 (Nat.le_refl _) (fun k hk => by simp at hk)); have HV2 := Lib.hid (HV1.out.stay sf_len B2'.out); clear hg2)
            | ((with_reducible refine wpList_vappany (o := ⟨some 39, .call _, _, _, _, _⟩) rowsT sf_len sf_one (.tmp 37) (.tmp 38) (by with_unfolding_all rfl) (by with_unfolding_all rfl) hO2 HV2.out (by simp; omega) B2'.out.size (by with_unfolding_all rfl) (by with_unfolding_all rfl) ?_); intro a3 c3 w3 hO3 hg3; have B3' := Lib.hid (hO2.grown hg3 B2'.out.size); rw [List.nil_append] at hO3)
            | ((with_reducible refine wpList_vapp1 (o := ⟨some 43, .call _, _, _, _, _⟩) rowsT sf_len sf_one (y := (⟨a1, c1, b⟩ : Sl UInt8)) (.tmp 40) (.tmp 42) (by with_unfolding_all rfl) (by with_unfolding_all rfl) hO3 (by with_unfolding_all rfl) (by omega) (Nat.le_trans B2'.out.size B3'.out.size) (by with_unfolding_all rfl) (by with_unfolding_all rfl) ?_); intro a4 c4 w4 hO4 hg4 hn4))
          have B4' : Below w1.heap.size w1 w4 := B2'.out.trans (B3'.out.trans (hO3.grown hg4 (Nat.le_trans B2'.out.size B3'.out.size)))
          have HRA := Lib.hid (rows_vec (hO4.vec sf_len) (fun d hd => by
            rcases List.mem_append.1 hd with h | h
            · exact (h1.row d h).stay B4'
            · obtain rfl := List.mem_singleton.1 h; exact HB1.out.stay B4'))
          have HR0 := Lib.hid (h1.stay B4')
          have HBR := Lib.hid (HB1.out.stay B4')
          have B4 := B1.trans (B4'.mono B1.size)
          obtain ⟨ls, hls⟩ : ∃ ls, Hid (ls = ds.map (·.l)) := ⟨_, rfl⟩
          have HLS : Hid (ls.length = ds.length) := by rw [Hid, hls.out, List.length_map]
          have hcc := fun wx (hb : Below w4.heap.size w4 wx) => chain_calls wx a4 (ds ++ [(⟨a1, c1, b⟩ : Sl UInt8)]) c4 (HRA.out.stay hb) (fun d hd => by
            rcases List.mem_append.1 hd with h | h
            · have := HL6.out d h; omega
            · obtain rfl := List.mem_singleton.1 h; show b.length ≤ 1000000; omega)
          have hmap : (ds ++ [(⟨a1, c1, b⟩ : Sl UInt8)]).map (·.l) = ls ++ [b] := by rw [List.map_append, hls.out]; rfl
          have hlen1 : (ds ++ [(⟨a1, c1, b⟩ : Sl UInt8)]).length = ls.length + 1 := by rw [List.length_append, HLS.out]; rfl
          rw [hmap, hlen1, chN_more, HLS.out] at hcc
          clear hO2 hz2 HV2 hO3 hg3 B3' hO4 hg4 hn4 B2' hmap hlen1 B4'
          rw [if_neg HZ0.out] at hcc
          obtain ⟨R, hR⟩ : ∃ R, Hid (R = chN ls ds.length) := ⟨_, rfl⟩
          rw [← hR.out] at hcc
          have HRL : Hid (R.length = 32) := by rw [Hid, hR.out, chN_len]
          obtain ⟨D, hD⟩ : ∃ D, Hid (D = ((sumB (R ++ b)).map vb).toArray) := ⟨_, rfl⟩
          rw [← hD.out] at hcc
          have HDD : Hid (D = ((sumB (R ++ b)).map vb).toArray) := hD
          have HEQD : Hid (∀ w, (Op.equalIn 10000 36 (.agg D) (.agg D)).run Try.prog w = .ok true w) := by
            intro w; rw [hD.out, run_eq_bytes tagT _ _ (sumB_len _) (sumB_len _)]; simp
          have hch := chain_calls w4 a0 ds c0 HR0.out (fun d hd => by have := HL6.out d hd; omega)
          rw [← hls.out, ← hR.out] at hch
          have HCH := Lib.hid hch
          have HCC := Lib.hid hcc
          clear hcc hch
          refine HCH.out.mono ?_
          rintro e w5 ⟨rfl, hb5⟩
          have B5 := B4.trans (hb5.mono B4.size)
          have HB5 := Lib.hid hb5
          have HA := Lib.hid (fun ρ d ty ps af w => alloc_tag ρ d ty ps (af := af) w)
          obtain ⟨X, hX⟩ : ∃ Y, Hid (Y = ((List.replicate 32 (0 : UInt8)).map vb).toArray) := ⟨_, rfl⟩
          rw [← hX.out] at HA
          have HX : Hid (X.size = 32) := by rw [Hid, hX.out]; simp
          obtain ⟨E, hE⟩ : ∃ E, Hid (E = (R.map vb).toArray) := ⟨_, rfl⟩
          rw [← hE.out]
          have HE : Hid (E.size = 32) := by rw [Hid, hE.out]; simpa using HRL.out
          have HEo : Hid (E.all (·.oneCell') = true) := by rw [Hid, hE.out]; exact arrB_ok _
          have HN : Hid ((w5.alloc (.cells X 36)).heap[w5.heap.size]? = some (.cells X 36 (0, 0))) := heap_alloc_new _ _
          clear hb5 HCH
          go_wp2_with (first
            | ((with_reducible refine wpList_value (o := ⟨some 8, .alloc _, _, _, _, _⟩) (by with_unfolding_all rfl) (HA.out _ _ _ _ _ _) ?_))
            | ((with_reducible refine wpList_storeB (o := ⟨none, .store _ (.tmp 8) (.tmp 53), _, _, _, _⟩) row_tag (.tmp 8) (.tmp 53) (by with_unfolding_all rfl) (by with_unfolding_all rfl) (by with_unfolding_all rfl) (by with_unfolding_all rfl) (by with_unfolding_all rfl) HN.out HX.out HE.out HEo.out ?_); intro w6 hb6 hS6; have HB6 := Lib.hid hb6; have HS6 := Lib.hid hS6; clear hb6 hS6))
          have hs6 := HS6.out.size
          rw [World.size_alloc] at hs6
          have hA6 : Below w5.heap.size w5 w6 := ((Below.refl _ w5).alloc (Nat.le_refl _) (.cells X 36)).trans (HS6.out.below (by simp) (fun j hj => by omega))
          have B6 := B5.trans (hA6.mono B5.size)
          have B46 : Below w4.heap.size w4 w6 := HB5.out.trans (hA6.mono HB5.out.size)
          have HAR : Hid (Row w6 (some ⟨w5.heap.size, 0, none⟩) R 32) := by
            have hx := HB6.out
            rw [hE.out] at hx
            have := ArrB.row (T := 36) (l := R) hx (by rw [HRL.out]; decide)
            rwa [HRL.out] at this
          have HBR6 : Hid (Row w6 a1 b c1) := HBR.out.stay B46
          have HCHA : Hid (∀ wx, Below w6.heap.size w6 wx → Calls Try.prog 28 #[.slice a4 (ds.length + 1) c4] wx fun e w' => e = .returned (.agg D) ∧ Below wx.heap.size wx w') := fun wx hb => by
            have h := HCC.out wx (B46.trans (hb.mono B46.size))
            exact h
          clear HB6 HS6 hA6 HBR HR0 B46
          obtain ⟨t8, ht8⟩ : ∃ t, t = w5.heap.size := ⟨_, rfl⟩
          rw [← ht8] at HAR ⊢
          clear ht8
          simp only [Act.put, List.setIfInBounds_toArray, List.set_cons_succ, List.set_cons_zero]
          refine wp_region_ty (chdT (R ++ b) (.slice a4 (ds.length + 1) c4) (.slice (some ⟨t8, 0, none⟩) 32 32) (.slice a1 b.length c1) D) (by kernel_rfl) (by kernel_rfl) ?_ ?_
          · refine opsAll_cons ?_ (opsAll_cons ?_ (opsAll_cons ?_ (opsAll_cons ?_ (opsAll_cons ?_ (opsAll_cons ?_ (opsAll_cons ?_ (opsAll_cons ?_ (opsAll_cons ?_ opsAll_nil))))))))
            all_goals intro a wx hk
            · -- slot 54
              exact ⟨wanted_free rfl, g_move (.tmp 7) rfl (hk.old 7 (by kernel_rfl))⟩
            · -- slot 55
              exact ⟨wanted_free rfl, g_call hk.below.size rfl (hk.fn _) #[.slice a4 (ds.length + 1) c4] (fun w => by kernel_rfl) (by simp [show a.eval (.tmp 54) = _ from hk.slot 54 (by kernel_rfl)]) ((HCHA.out wx hk.below).mono fun e w3 ⟨he, hd⟩ => ⟨_, he, hd, rfl⟩)⟩
            · -- slot 56
              exact ⟨wanted_free rfl, chd_slice rfl (hk.old 8 (by kernel_rfl)) rfl⟩
            · -- slot 57
              exact ⟨wanted_free rfl, g_move (.tmp 1) rfl (hk.old 1 (by kernel_rfl))⟩
            · -- slot 58
              exact ⟨wanted_free rfl, chd_build hk.below.size rfl (hk.slot 56 (by kernel_rfl)) (hk.slot 57 (by kernel_rfl)) rfl rfl rfl rfl rfl⟩
            · -- slot 59
              exact ⟨wanted_free rfl, chd_cat hk.below.size rfl (hk.fn _) (hk.slot 58 (by kernel_rfl)) HRL.out.symm rfl (HAR.out.stay hk.below) (HBR6.out.stay hk.below) (by rw [HRL.out]; decide) (by omega) rfl⟩
            · -- slot 60
              exact ⟨wanted_free rfl, chd_sum hk.below.size rfl (hk.fn _) (hk.slot 59 (by kernel_rfl)) (by rw [List.length_append, HRL.out]; omega) HDD.out rfl⟩
            · -- slot 61
              exact ⟨wanted_free rfl, g_bin rfl (hk.slot 55 (by kernel_rfl)) (hk.slot 60 (by kernel_rfl)) (run_eql_op tagT.guard _ _ HEQD.out) rfl⟩
            · -- slot 4
              exact ⟨wanted_free rfl, g_assign (.tmp 61) rfl (hk.slot 61 (by kernel_rfl))⟩
          intro a wz hbz hsame hall
          have h0 := hall 4 (by kernel_rfl)
          have hd := hsame.1
          rename_i hK
          refine hK a wz ?_
          apply wp_ret
          refine bodyPost_ret (results_tmp rfl _ _ _) hd ⟨congrArg Ending.returned h0, ?_⟩
          exact B6.trans (hbz.mono B6.size)

theorem shaChained_law (w : World) (a0 : Option Addr) (ds : List (Sl UInt8)) (c0 : Nat) (a1 : Option Addr) (b : List UInt8) (c1 : Nat) (h0 : Rows w a0 ds c0) (hc : ∀ d ∈ ds, d.l.length ≤ 140737488351232) (hb : Row w a1 b c1) (hcb : c1 ≤ 140737488351232) :
    Calls Try.prog 6 #[.slice a0 ds.length c0, .slice a1 b.length c1] w fun e w' => e = .returned (.bool true) ∧ Below w.heap.size w w' := by
  by_cases h : 8 < ds.length
  · exact chained_far w a0 ds c0 a1 b c1 h0 h hb.len_le
  · exact chained_near w a0 ds c0 a1 b c1 h0 hc hb hcb (by omega)
end Go.Proofs.Ytiemafgnpmoblaa
