/- bytes.Repeat of one byte, words.Padded: walked. -/
import Derived.Test.YtiemafgnpmoblaaCat
import Derived.Lib.MakeNoZero
import Derived.Lib.SlBuf
import Derived.Laws.Externs
import Derived.Lib.SlFresh
import Derived.IntWalk
namespace Go.Proofs.Ytiemafgnpmoblaa
open Go Go.RowKit Go.Cit

/-- copy(nb[bp:], nb[:ch]): the buffer nb is filled up to bp, with one byte over and over. -/
theorem copy_self {P : Program} (w0 wr : World) (h N bp ch C : Nat) (x : UInt8) (t ty e : TypeId) (hu : P.underlying t = some (.slice e)) (hs : (P.info? e).map (·.size) = some 1)
    (hb : Lib.Buf w0 wr h N (List.replicate bp x)) (hch : ch ≤ bp) (hlt : bp < N) :
    ∃ wr', (Builtin.copy_ #[t, t] ty #[Lib.tailV h N bp, .slice (some ⟨h, 0, none⟩) ch C]).run P wr = .ok (.int .i64 ((min ch (N - bp) : Nat) : Int)) wr' ∧ Lib.Buf w0 wr' h N (List.replicate (bp + min ch (N - bp)) x) := by
  obtain ⟨m, hm⟩ : ∃ m, min ch (N - bp) = m := ⟨_, rfl⟩
  have hr := run_copy_cells (P := P) wr t t ty e h bp (N - bp) (N - bp) ⟨h, 0, none⟩ ch C (List.replicate m (vb x)) hu hs (by rw [List.length_replicate, ← hm])
    (fun j v hj => by
      have hjm : j < m := by have := (List.getElem?_eq_some_iff.1 hj).1; simpa using this
      have hv : v = vb x := by
        rw [List.getElem?_replicate, if_pos hjm] at hj; exact (Option.some.inj hj).symm
      have ea : (⟨h, 0, none⟩ : Addr).add j = ⟨h, j, none⟩ := by unfold Addr.add; split <;> simp_all
      rw [ea, hv]
      exact hb.holds j x (by rw [List.getElem?_replicate, if_pos (by omega)]))
    (fun j hj => by rw [List.length_replicate] at hj; exact hb.there _ (by omega)) (fun j hj => by rw [List.length_replicate] at hj; exact hb.free _ (by omega))
    (fun u hu' => by rw [List.eq_of_mem_replicate hu']; rfl)
  rw [List.length_replicate] at hr
  rw [hm]
  refine ⟨_, by unfold Lib.tailV; rw [if_neg (by omega)]; exact hr, ?_⟩
  have hin := World.cell?_setCells_in h (List.replicate m (vb x)) bp wr (fun j hj => by rw [List.length_replicate] at hj; exact hb.there _ (by omega))
  have hout := World.cell?_setCells_out h (List.replicate m (vb x)) bp wr
  refine ⟨Lib.below_setCells h (Nat.le_refl _) _ _ hb.below, fun j hj => ?_, fun j hj => by rw [World.frozen?_setCells]; exact hb.free j hj, fun j y hy => ?_, by rw [List.length_replicate]; omega⟩
  · by_cases h1 : bp ≤ j ∧ j < bp + m
    · obtain ⟨d, rfl⟩ : ∃ d, j = bp + d := ⟨j - bp, by omega⟩
      rw [hin d (by rw [List.length_replicate]; omega)]
      rfl
    · rw [hout ⟨h, j, none⟩ (fun _ _ => by rw [List.length_replicate]; show j < _ ∨ _ ≤ j; omega)]
      exact hb.there j hj
  · have hjm : j < bp + m := by have := (List.getElem?_eq_some_iff.1 hy).1; simpa using this
    have hyx : y = x := by rw [List.getElem?_replicate, if_pos hjm] at hy; exact (Option.some.inj hy).symm
    subst hyx
    by_cases h1 : j < bp
    · rw [hout ⟨h, j, none⟩ (fun _ _ => Or.inl h1)]
      exact hb.holds j y (by rw [List.getElem?_replicate, if_pos h1])
    · obtain ⟨d, rfl⟩ : ∃ d, j = bp + d := ⟨j - bp, by omega⟩
      rw [hin d (by rw [List.length_replicate]; omega)]
      simp

theorem buf_drew {w0 wr : World} {h N : Nat} {acc : List UInt8} (hb : Lib.Buf w0 wr h N acc) : Lib.Buf w0 wr.drew h N acc :=
  ⟨hb.below.trans (below_drewN _ _ 1), hb.there, hb.free, hb.holds, hb.fits⟩

theorem step_copy_run {P : Program} {w : World} {ops : Array Oper} {o : Oper} {act : Act} {K : Act → World → Prop} {Q : Exit → Act → World → Prop} {F : Prop} (hgd : o.guard = none) (d s : Operand) (t t' : TypeId)
    (ho : o.op = .call { callee := .builtin .copy, args := #[d, s], argTypes := #[t, t'] }) (v u : Value) (hd : act.eval d = v) (hs : act.eval s = u) {v' : Value} {w' : World}
    (hr : (Builtin.copy_ #[t, t'] o.type #[v, u]).run P w = .ok v' w') (h : K (act.put o.dst v') w') : if Region.wanted o (yielded ops act.tmps) = true then Oper.wp P o act w K Q else F := by
  rw [if_pos (by simp [Region.wanted, hgd])]
  exact Lib.wp_copy_run w d s t t' ho v u hd hs hr h

theorem repeat0_calls (w : World) (a : Option Addr) (n c : Nat) :
    Calls Try.prog 89 #[.slice a n c, .int .i64 0] w fun e w' => e = .returned (.slice (some ⟨w.heap.size, 0, none⟩) 0 0) ∧ w' = w.alloc (.cells #[] 5) := by
  go_enter Try.func89, Try.ntmps89
  go_wp2
  go_ret
  exact ⟨rfl, rfl⟩

set_option maxRecDepth 100000 in
set_option maxHeartbeats 2000000 in
theorem repeat_calls (w : World) (g : Nat) (x : UInt8) (c : Nat) (h1 : 1 ≤ c) (h9 : c ≤ 1000000) (hc : w.cell? ⟨g, 0, none⟩ = some (vb x)) :
    Calls Try.prog 89 #[.slice (some ⟨g, 0, none⟩) 1 1, .int .i64 c] w fun e w' => ∃ a cp, e = .returned (.slice a c cp) ∧ Mine w.heap.size w' a (List.replicate c x) cp ∧ Below w.heap.size w w' := by
  have t1 : ((c : Int) == 0) = false := by simp; omega
  have t2 : decide ((c : Int) < 0) = false := by simp
  have hm : Calls Try.prog 90 #[.int .u64 1, .int .u64 c] w fun e w' => e = .returned (.tuple #[.int .u64 0, .int .u64 c]) ∧ w = w' := by
    refine (Try.bits_Mul 1 c (by decide) (by omega) w).mono ?_
    rintro e w' ⟨rfl, rfl⟩
    refine ⟨?_, rfl⟩
    have e1 : 1 * c / 18446744073709551616 = 0 := by omega
    have e2 : 1 * c % 18446744073709551616 = c := by omega
    rw [e1, e2]; rfl
  obtain ⟨cs, hrunM, hle, _⟩ := Lib.run_makeNoZero (P := Try.prog) w #[3] 25 5 bt.slice c (by omega)
  have hcall : (callFunc 77 #[.int .i64 (c : Int)]).run Try.prog w = .ok (.value (.slice (some ⟨w.heap.size, 0, none⟩) c cs.size)) ((w.alloc (.cells cs 5)).drewN 2) := by
    rw [run_callFunc_extern Try.func77 (by kernel_rfl) (by kernel_rfl) (by kernel_rfl) (e := Extern.BytealgMakeNoZero.makeNoZero #[3] #[25]) (by kernel_rfl), hrunM]
    rfl
  have i1 : (c : Int) ≤ (cs.size : Int) := by omega
  have B0 := Lib.Buf.start w cs 5 c 2 hle
  have hs5 : (Try.prog.info? 5).map (·.size) = some 1 := by kernel_rfl
  obtain ⟨w1, hr1, B1⟩ := Lib.copy_part (P := Try.prog) w _ w.heap.size c [] [x] (.slice (some ⟨g, 0, none⟩) 1 1) 25 3 5 bt.slice hs5 (Nat.le_refl _) B0 ⟨some ⟨g, 0, none⟩, 1, rfl, fun h => by simp at h, fun a e i y hy => by
    injection e with e
    subst e
    match i, hy with
    | 0, hy => simp at hy; subst hy; simpa [Addr.add] using hc
    | i + 1, hy => simp at hy⟩ (by simpa using h1)
  rw [List.length_nil, Lib.tailV_zero] at hr1
  have HB1 : Hid (Lib.Buf w w1 w.heap.size c (List.replicate 1 x)) := B1
  clear B0 B1 hrunM
  obtain ⟨cm, hcm1, hcm2, hcm⟩ : ∃ cm : Nat, 1 ≤ cm ∧ cm ≤ c ∧ ((8192 < c ∧ cm = 8192) ∨ (¬ 8192 < c ∧ cm = c)) := by
    by_cases h : 8192 < c
    · exact ⟨8192, by decide, by omega, .inl ⟨h, rfl⟩⟩
    · exact ⟨c, h1, Nat.le_refl _, .inr ⟨h, rfl⟩⟩
  have t4 : decide (9223372036854775807 < (c : Int)) = false := by simp; omega
  rcases hcm with ⟨hbig, rfl⟩ | ⟨hbig, hcm⟩
  · have t3 : decide (8192 < (c : Int)) = true := by simp; omega
    go_enter Try.func89, Try.ntmps89
    go_wp2_with (first
      | ((with_reducible refine (hm).mono ?_); rintro e w' ⟨rfl, rfl⟩)
      | (at_builtin; refine Lib.wpList_copy_run _ rfl _ _ 25 25 rfl _ _ rfl rfl hr1 ?_))
    clear hr1 hcall hm hc
    go_loopw [10] (fun p wr => ∃ bp : Nat, p = .int .i64 bp ∧ 1 ≤ bp ∧ bp ≤ c ∧ Hid (Lib.Buf w wr w.heap.size c (List.replicate bp x))) (fun p _ => c - (intOf p).toNat)
    case atStart => exact ⟨1, rfl, Nat.le_refl _, h1, HB1⟩
    case round =>
      clear HB1
      obtain ⟨bp, rfl, hb1, hb2, HB⟩ := hrel
      by_cases hlt : bp < c
      · obtain ⟨ch, hch⟩ : ∃ ch, ch = min bp 8192 := ⟨_, rfl⟩
        have hmin : min (bp : Int) (8192 : Int) = (ch : Int) := by omega
        have hch1 : 1 ≤ ch := by omega
        have hch2 : ch ≤ bp := by omega
        have hch3 : (ch : Int) ≤ c := by omega
        clear hch
        have hsl1 : ∀ W, (Instr.sliceAt 25 (.slice (some ⟨w.heap.size, 0, none⟩) c c) (some (.int .i64 (bp : Int))) none none).run Try.prog W = .ok (Lib.tailV w.heap.size c bp) W := fun W => by
          rw [run_sliceAt_slice _ _ _ _ _ _ (show Try.prog.underlying 25 = some (.slice (Try.prog.elem 25)) by simp [Program.elem, bt.slice])]
          exact Lib.run_slice_tailV W _ _ bt.slice bt.sz _ c bp hb2
        obtain ⟨w2, hr2, B2⟩ := copy_self (P := Try.prog) w wr.drew w.heap.size c bp ch c x 25 3 5 bt.slice hs5 (buf_drew HB.out) hch2 hlt
        generalize Lib.tailV w.heap.size c bp = tv at hsl1 hr2
        obtain ⟨mm, hmm⟩ : ∃ mm, min ch (c - bp) = mm := ⟨_, rfl⟩
        rw [hmm] at hr2 B2
        have HM : Hid (1 ≤ mm ∧ bp + mm ≤ c) := by rw [Hid]; omega
        have hm1 : (bp : Int) + (mm : Int) ≤ 9223372036854775807 := by omega
        have hwr : IntKind.i64.wrap ((bp : Int) + (mm : Int)) = (bp : Int) + (mm : Int) := IntWalk.i64_in _ (by omega)
        clear hmm
        have HB2 := Lib.hid B2
        clear B2
        go_wp2
        go_region_law (refine step_copy_run rfl (.tmp 70) (.tmp 73) 25 25 rfl tv (.slice (some ⟨w.heap.size, 0, none⟩) ch c) (by simp [Act.eval, Act.put]) (by simp [Act.eval, Act.put]) hr2 ?_)
        clear hwr
        simp [Act.put]
        go_wp2_with fail
        go_roundw
        case rel => exact ⟨bp + mm, by go_num, by omega, HM.out.2, HB2⟩
        case measure => have := HM.out; simp [intOf]; omega
      · obtain rfl : bp = c := by omega
        go_wp2
        go_ret
        obtain ⟨a, cp, hv, hM⟩ := mine_of_fresh (Lib.Buf.fresh HB.out (by simp) (by unfold maxLen; omega))
        injection hv with e1 e2 e3
        subst e1 e3
        exact ⟨_, _, rfl, hM, HB.out.below⟩
  · have t3 : decide (8192 < (c : Int)) = false := by simp; omega
    go_enter Try.func89, Try.ntmps89
    go_wp2_with (first
      | ((with_reducible refine (hm).mono ?_); rintro e w' ⟨rfl, rfl⟩)
      | (at_builtin; refine Lib.wpList_copy_run _ rfl _ _ 25 25 rfl _ _ rfl rfl hr1 ?_))
    clear hr1 hcall hm hc
    go_loopw [10] (fun p wr => ∃ bp : Nat, p = .int .i64 bp ∧ 1 ≤ bp ∧ bp ≤ c ∧ Hid (Lib.Buf w wr w.heap.size c (List.replicate bp x))) (fun p _ => c - (intOf p).toNat)
    case atStart => exact ⟨1, rfl, Nat.le_refl _, h1, HB1⟩
    case round =>
      clear HB1
      obtain ⟨bp, rfl, hb1, hb2, HB⟩ := hrel
      by_cases hlt : bp < c
      · obtain ⟨ch, hch⟩ : ∃ ch, ch = min bp c := ⟨_, rfl⟩
        have hmin : min (bp : Int) (c : Int) = (ch : Int) := by omega
        have hch1 : 1 ≤ ch := by omega
        have hch2 : ch ≤ bp := by omega
        have hch3 : (ch : Int) ≤ c := by omega
        clear hch
        have hsl1 : ∀ W, (Instr.sliceAt 25 (.slice (some ⟨w.heap.size, 0, none⟩) c c) (some (.int .i64 (bp : Int))) none none).run Try.prog W = .ok (Lib.tailV w.heap.size c bp) W := fun W => by
          rw [run_sliceAt_slice _ _ _ _ _ _ (show Try.prog.underlying 25 = some (.slice (Try.prog.elem 25)) by simp [Program.elem, bt.slice])]
          exact Lib.run_slice_tailV W _ _ bt.slice bt.sz _ c bp hb2
        obtain ⟨w2, hr2, B2⟩ := copy_self (P := Try.prog) w wr.drew w.heap.size c bp ch c x 25 3 5 bt.slice hs5 (buf_drew HB.out) hch2 hlt
        generalize Lib.tailV w.heap.size c bp = tv at hsl1 hr2
        obtain ⟨mm, hmm⟩ : ∃ mm, min ch (c - bp) = mm := ⟨_, rfl⟩
        rw [hmm] at hr2 B2
        have HM : Hid (1 ≤ mm ∧ bp + mm ≤ c) := by rw [Hid]; omega
        have hm1 : (bp : Int) + (mm : Int) ≤ 9223372036854775807 := by omega
        have hwr : IntKind.i64.wrap ((bp : Int) + (mm : Int)) = (bp : Int) + (mm : Int) := IntWalk.i64_in _ (by omega)
        clear hmm
        have HB2 := Lib.hid B2
        clear B2
        go_wp2
        go_region_law (refine step_copy_run rfl (.tmp 70) (.tmp 73) 25 25 rfl tv (.slice (some ⟨w.heap.size, 0, none⟩) ch c) (by simp [Act.eval, Act.put]) (by simp [Act.eval, Act.put]) hr2 ?_)
        clear hwr
        simp [Act.put]
        go_wp2_with fail
        go_roundw
        case rel => exact ⟨bp + mm, by go_num, by omega, HM.out.2, HB2⟩
        case measure => have := HM.out; simp [intOf]; omega
      · obtain rfl : bp = c := by omega
        go_wp2
        go_ret
        obtain ⟨a, cp, hv, hM⟩ := mine_of_fresh (Lib.Buf.fresh HB.out (by simp) (by unfold maxLen; omega))
        injection hv with e1 e2 e3
        subst e1 e3
        exact ⟨_, _, rfl, hM, HB.out.below⟩

/-- A row and noughts behind it. -/
def padL (l : List UInt8) (n : Int) : List UInt8 := l ++ List.replicate (max (min n 65536 - l.length) 0).toNat 0

theorem padded_calls (w : World) (a : Option Addr) (l : List UInt8) (c : Nat) (n : Int) (r : Row w a l c) (hl : l.length ≤ 100000000) (hn : -9000000000000000000 ≤ n ∧ n ≤ 9223372036854775807) :
    Calls Try.prog 80 #[.slice a l.length c, .int .i64 n] w fun e w' => ∃ a' cp, e = .returned (.slice a' (padL l n).length cp) ∧ Mine w.heap.size w' a' (padL l n) cp ∧ Below w.heap.size w w' := by
  obtain ⟨k, hk⟩ : ∃ k : Nat, (k : Int) = max (min n 65536 - l.length) 0 := ⟨(max (min n 65536 - l.length) 0).toNat, by omega⟩
  have hk9 : k ≤ 65536 := by omega
  have HP : Hid (padL l n = l ++ List.replicate k 0) := by rw [Hid, padL, ← hk]; rfl
  obtain ⟨mn, hmn⟩ : ∃ mn, min n 65536 = mn := ⟨_, rfl⟩
  have hmn9 : -9000000000000000000 ≤ mn ∧ mn ≤ 65536 := by omega
  obtain ⟨df, hdf⟩ : ∃ df, mn - (l.length : Int) = df := ⟨_, rfl⟩
  have hmx : max df 0 = (k : Int) := by rw [hk, hmn, hdf]
  have hw : IntKind.i64.wrap (mn - (l.length : Int)) = df := by rw [← hdf]; exact IntWalk.i64_in _ (by omega)
  have hb1 : Below w.heap.size w (w.alloc (.cells #[.int .u8 0] 5)) := (Below.refl _ _).alloc (Nat.le_refl _) _
  have r1 := r.stay hb1
  have hrep : Calls Try.prog 89 #[.slice (some ⟨w.heap.size, 0, none⟩) 1 1, .int .i64 k] (w.alloc (.cells #[.int .u8 0] 5)) fun e w' => ∃ a X cp, Hid (X = List.replicate k 0) ∧ e = .returned (.slice a X.length cp) ∧ Row w' a X cp ∧ Below (w.alloc (.cells #[.int .u8 0] 5)).heap.size (w.alloc (.cells #[.int .u8 0] 5)) w' := by
    rcases Nat.eq_zero_or_pos k with rfl | h0
    · refine (repeat0_calls _ _ _ _).mono ?_
      rintro e w' ⟨rfl, rfl⟩
      exact ⟨_, [], 0, rfl, rfl, ⟨Nat.le_refl _, Nat.zero_le _, fun h => by simp at h, fun h => absurd rfl h, fun i h => by simp at h⟩, (Below.refl _ _).alloc (Nat.le_refl _) _⟩
    · refine (repeat_calls _ w.heap.size 0 k h0 (by omega) ?_).mono ?_
      · rw [World.cell?, heap_alloc_new]; rfl
      · rintro e w' ⟨a, cp, rfl, hM, hb⟩
        exact ⟨a, _, cp, rfl, by rw [List.length_replicate], hM.row, hb⟩
  have HDF := Lib.hid hdf
  have HK := Lib.hid hk
  clear hdf hk
  go_enter Try.func80, Try.ntmps80
  go_wp2_with fail
  refine hrep.mono ?_
  rintro e w1 ⟨a2, X, cp2, HX, rfl, r2, hb2⟩
  have hX : X.length ≤ 100000 := by rw [HX.out, List.length_replicate]; omega
  have r3 := r1.stay hb2
  go_wp2_with fail
  refine (cat2_calls w1 _ r3 r2 (by omega) (by omega)).mono ?_
  rintro e w2 ⟨a3, cp3, rfl, hM3, hb3⟩
  have HS : Hid (w.heap.size ≤ w1.heap.size) := by have := hb2.size; simp at this; rw [Hid]; omega
  have HX2 : Hid (l ++ X = padL l n) := by rw [Hid, HP.out, HX.out]
  clear hX HX
  go_wp2_with fail
  go_ret
  refine ⟨a3, cp3, by rw [← HX2.out, List.length_append]; rfl, ?_, ?_⟩
  · rw [← HX2.out]; exact hM3.low HS.out
  · exact hb1.trans (((hb2.mono (by simp)).trans (hb3.mono HS.out)))
end Go.Proofs.Ytiemafgnpmoblaa
