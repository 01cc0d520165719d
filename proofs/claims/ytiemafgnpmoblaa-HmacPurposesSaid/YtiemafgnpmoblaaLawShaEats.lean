/- ShaEats: the walk of the law. -/
import Derived.Test.YtiemafgnpmoblaaGd
import Derived.Test.YtiemafgnpmoblaaGe
import Derived.Test.YtiemafgnpmoblaaGb
namespace Go.Proofs.Ytiemafgnpmoblaa
open Go Go.RowKit Go.Cit

theorem s8_of (l : List UInt32) (h : l.length = 8) : ∃ s : S8, l = s.l := by
  match l, h with
  | [a, b, c, d, e, f, g, h'], _ => exact ⟨⟨a, b, c, d, e, f, g, h'⟩, rfl⟩
def zero8 : S8 := ⟨0, 0, 0, 0, 0, 0, 0, 0⟩
theorem build_state (ρ : Operand → Value) (d : Option Tmp) (ty : TypeId) (ps : String) {af gd} (w : World) :
    (execOp ρ { dst := d, op := Op.build 24 #[], type := ty, pos := ps, after := af, guard := gd }).run Try.prog w = .ok (.value (.agg (zero8.l.map vw).toArray)) w := by
  kernel_rfl
theorem stT : IntsType Try.prog 24 22 8 .u32 := ⟨Try.underlying24, Try.underlying22, by kernel_rfl, by kernel_rfl, by kernel_rfl, by kernel_rfl⟩
theorem tagT : IntsType Try.prog 36 5 32 .u8 := ⟨Try.underlying36, Try.underlying5, by kernel_rfl, by kernel_rfl, by kernel_rfl, by kernel_rfl⟩

set_option maxRecDepth 100000 in
set_option maxHeartbeats 2000000 in
/-- sha.Eat of a row that is no block. -/
theorem eatno_calls (w : World) (C : Array Value) (a : Option Addr) (n c : Nat) (hn : n ≠ 64) :
    Calls Try.prog 13 #[.agg C, .slice a n c] w fun e w' => e = .returned (.tuple #[.agg (zero8.l.map vw).toArray, .int .i64 2]) ∧ Below w.heap.size w w' := by
  have HA := Lib.hid (fun ρ d ty ps af w => alloc_state ρ d ty ps (af := af) w)
  have HBU := Lib.hid (fun ρ d ty ps af gd w => build_state ρ d ty ps (af := af) (gd := gd) w)
  obtain ⟨Z, hZ⟩ : ∃ Z, Hid (Z = (zero8.l.map vw).toArray) := ⟨_, rfl⟩
  rw [← hZ.out] at HBU ⊢
  have hY : ((List.replicate 8 (0 : UInt32)).map vw).toArray = Z := by rw [hZ.out]; rfl
  rw [hY] at HA
  have HZ : Hid (Z.size = 8) := by rw [Hid, hZ.out]; rfl
  have HZo : Hid (Z.all (·.oneCell') = true) := by rw [Hid, hZ.out]; exact arr_ok _
  have d1 : ((n : Int) != 64) = true := by rw [bne_iff_ne]; omega
  have d2 : (n != 64) = true := by rw [bne_iff_ne]; exact hn
  clear hY hn
  have b1 : ((w.alloc (.cells C 24)).alloc (.cells Z 24)).heap[w.heap.size + 1]? = some (.cells Z 24 (0, 0)) := by
    have := heap_alloc_new (w.alloc (.cells C 24)) (.cells Z 24)
    rwa [World.size_alloc] at this
  have B0 : Below w.heap.size w ((w.alloc (.cells C 24)).alloc (.cells Z 24)) := ((Below.refl _ w).alloc (Nat.le_refl _) _).alloc (by simp) _
  have HB1 := Lib.hid (And.intro b1 B0)
  clear b1 B0
  go_enter Try.func13, Try.ntmps13
  go_wp2_with (first
    | ((with_reducible refine wpList_boxB (o := ⟨some 2, .box _ (.tmp 0), _, _, _, _⟩) (.tmp 0) (by with_unfolding_all rfl) (by with_unfolding_all rfl) (by with_unfolding_all rfl) ?_))
    | ((with_reducible refine wpList_value (o := ⟨some 4, .alloc _, _, _, _, _⟩) (by with_unfolding_all rfl) (HA.out _ _ _ _ _ _) ?_))
    | ((with_reducible refine wpList_value (o := ⟨some 9, .build _ _, _, _, _, _⟩) (by with_unfolding_all rfl) (HBU.out _ _ _ _ _ _ _) ?_))
    | ((with_reducible refine wpList_storeB (o := ⟨none, .store _ (.tmp 4) (.tmp 9), _, _, _, _⟩) row_state (.tmp 4) (.tmp 9) (by with_unfolding_all rfl) (by with_unfolding_all rfl) (by with_unfolding_all rfl) (by with_unfolding_all rfl) (by with_unfolding_all rfl) HB1.out.1 HZ.out HZ.out HZo.out ?_); intro w4 hb4 hS4))
  refine bodyPost_ret (resB2 row_state rfl rfl hb4 HZ.out) rfl ⟨rfl, ?_⟩
  exact HB1.out.2.trans (hS4.below (by simp; omega) (fun j hj => by simp; omega))

def eatS (s : S8) (b : List UInt8) : S8 := if b.length = 64 then s.eat kTab b else zero8
def eatE (b : List UInt8) : Int := if b.length = 64 then 0 else 2
theorem eatany_calls (w : World) (s : S8) (a : Option Addr) (b : List UInt8) (c : Nat) (hr : Row w a b c) :
    Calls Try.prog 13 #[.agg (s.l.map vw).toArray, .slice a b.length c] w fun e w' => e = .returned (.tuple #[.agg ((eatS s b).l.map vw).toArray, .int .i64 (eatE b)]) ∧ Below w.heap.size w w' := by
  unfold eatS eatE
  by_cases h : b.length = 64
  · have := eatb_calls w s a b c hr h
    rw [if_pos h, if_pos h, h]; exact this
  · rw [if_neg h, if_neg h]; exact eatno_calls w _ a _ c h
theorem agg_len (s : S8) : (s.l.map vw).toArray.size = 8 := rfl

theorem eats_same {B : Nat} {wx : World} {o : Oper} {ρ : Operand → Value} {x y : Tmp} {s t : S8} (hB : B ≤ wx.heap.size) (h : o.op = .call { callee := .value (.func 15), args := #[.tmp x, .tmp y], argTypes := #[24, 33] })
    (hf : ρ (.func 15) = .func (.func 15) #[] #[]) (h1 : (Ty.val (.agg (s.l.map vw).toArray)).ok (ρ (.tmp x)) wx) (h2 : (tyVec cw 1 cw_len t.l 8).ok (ρ (.tmp y)) wx) (he : s.l = t.l) {T : Ty} (hT : T = .val (.bool true)) : Gives Try.prog B wx T ((execOp ρ o).run Try.prog wx) := by
  obtain ⟨a, c, hv, hr⟩ := h2
  subst hT
  refine g_call hB h hf #[.agg (s.l.map vw).toArray, .slice a 8 c] (fun w => by kernel_rfl) (by simp [show ρ (.tmp x) = _ from h1, hv]) ((statsame_calls wx s t a c hr).mono fun e w3 ⟨he', hd⟩ => ⟨_, he', hd, ?_⟩)
  show Value.bool _ = Value.bool _
  rw [decide_eq_true he]
theorem eats_print {B : Nat} {wx : World} {o : Oper} {ρ : Operand → Value} {y : Tmp} {t : S8} (hB : B ≤ wx.heap.size) (h : o.op = .call { callee := .value (.func 19), args := #[.tmp y], argTypes := #[33] })
    (hf : ρ (.func 19) = .func (.func 19) #[] #[]) (h2 : (tyVec cw 1 cw_len t.l 8).ok (ρ (.tmp y)) wx) {T : Ty} (hT : T = .val (.agg ((printB t).map vb).toArray)) : Gives Try.prog B wx T ((execOp ρ o).run Try.prog wx) := by
  obtain ⟨a, c, hv, hr⟩ := h2
  subst hT
  exact g_call hB h hf #[.slice a 8 c] (fun w => by kernel_rfl) (by simp [hv]) ((refprint_calls wx a t c hr).mono fun e w3 ⟨he', hd⟩ => ⟨_, he', hd, rfl⟩)
theorem eats_eat {B : Nat} {wx : World} {o : Oper} {ρ : Operand → Value} {x y : Tmp} {s t : S8} {a1 : Option Addr} {b : List UInt8} {n c1 : Nat} (hB : B ≤ wx.heap.size) (h : o.op = .call { callee := .value (.func 21), args := #[.tmp x, .tmp y], argTypes := #[33, 25] })
    (hf : ρ (.func 21) = .func (.func 21) #[] #[]) (h2 : (tyVec cw 1 cw_len s.l 8).ok (ρ (.tmp x)) wx) (h1 : (Ty.val (.slice a1 n c1)).ok (ρ (.tmp y)) wx) (hr1 : Row wx a1 b c1) (hn : n = 64 ∧ b.length = 64) (ht : s.eat kTab b = t) {T : Ty} (hT : T = tyVec cw 1 cw_len t.l 8) : Gives Try.prog B wx T ((execOp ρ o).run Try.prog wx) := by
  obtain ⟨a, c, hv, hr⟩ := h2
  obtain ⟨rfl, h64⟩ := hn
  subst hT ht
  exact g_call hB h hf #[.slice a 8 c, .slice a1 64 c1] (fun w => by kernel_rfl) (by simp [hv, show ρ (.tmp y) = _ from h1]) ((refeat_calls wx a s c hr a1 b c1 hr1 h64).mono fun e w3 ⟨a', he', ho, hd⟩ => ⟨_, he', hd, _, _, rfl, ho.vec cw_len⟩)

/-- What is said of each slot of the law's two last statements. -/
def eatsT (s t : S8) (b : List UInt8) (u v : Value) : Nat → Ty
  | 19 => .val u
  | 20 => .val v
  | 24 => .val (.agg (first8.l.map vw).toArray)
  | 25 => tyVec cw 1 cw_len first8.l 8
  | 30 => .val (.agg (s.l.map vw).toArray)
  | 31 => .val (.agg ((printB s).map vb).toArray)
  | 32 => .val (.agg (s.l.map vw).toArray)
  | 33 => tyVec cw 1 cw_len s.l 8
  | 34 => .val (.agg ((printB s).map vb).toArray)
  | 21 => .val (.bool true)
  | 26 => .val (.bool true)
  | 22 => .val (.bool false)
  | 23 => .val (.bool false)
  | 27 => .val (.bool false)
  | 28 => .val (.bool false)
  | 29 => .val (.bool false)
  | 35 => .val (.bool false)
  | 36 => .val (.bool false)
  | 47 => .val (.int .i64 0)
  | 50 => .val (.agg (t.l.map vw).toArray)
  | 51 => .val (.agg (s.l.map vw).toArray)
  | 52 => tyVec cw 1 cw_len s.l 8
  | 53 => .val v
  | 54 => tyVec cw 1 cw_len t.l 8
  | _ => .val (.bool true)

set_option maxRecDepth 100000 in
set_option maxHeartbeats 4000000 in
theorem shaEats_law (w : World) (l : List UInt32) (a1 : Option Addr) (b : List UInt8) (c1 : Nat) (hl : l.length = 8) (h1 : Row w a1 b c1) :
    Calls Try.prog 3 #[.agg (l.map vw).toArray, .slice a1 b.length c1] w fun e w' => e = .returned (.bool true) ∧ Below w.heap.size w w' := by
  obtain ⟨s, rfl⟩ := s8_of l hl
  obtain ⟨C, hC⟩ : ∃ C, Hid (C = (s.l.map vw).toArray) := ⟨_, rfl⟩
  have HC : Hid (C.size = 8) := by rw [Hid, hC.out]; exact agg_len s
  rw [← hC.out]
  clear hl
  have b0 : (w.alloc (.cells C 24)).heap[w.heap.size]? = some (.cells C 24 (0, 0)) := heap_alloc_new w _
  have B0 : Below w.heap.size w (w.alloc (.cells C 24)) := (Below.refl _ w).alloc (Nat.le_refl _) _
  have R0 := h1.stay B0
  have HB := Lib.hid (And.intro b0 (And.intro B0 R0))
  have hlen := h1.len_le
  have HA := Lib.hid (fun ρ d ty ps af w => alloc_state ρ d ty ps (af := af) w)
  obtain ⟨Z, hZ⟩ : ∃ Z, Hid (Z = ((List.replicate 8 (0 : UInt32)).map vw).toArray) := ⟨_, rfl⟩
  rw [← hZ.out] at HA
  have HZ : Hid (Z.size = 8) := by rw [Hid, hZ.out]; simp
  clear b0 B0 R0 h1
  by_cases hbig : 200 < b.length
  · have d1 : decide ((200 : Int) < (b.length : Int)) = true := by simp; omega
    go_enter Try.func3, Try.ntmps3
    go_wp2_with (first
      | ((with_reducible refine wpList_boxB (o := ⟨some 2, .box _ (.tmp 0), _, _, _, _⟩) (.tmp 0) (by with_unfolding_all rfl) (by with_unfolding_all rfl) (by with_unfolding_all rfl) ?_)))
    go_ret
    exact ⟨rfl, HB.out.2.1⟩
  · have d1 : decide ((200 : Int) < (b.length : Int)) = false := by simp; omega
    have d1' : decide (200 < b.length) = false := by simpa using hbig
    go_enter Try.func3, Try.ntmps3
    go_wp2_with (first
      | ((with_reducible refine wpList_boxB (o := ⟨some 2, .box _ (.tmp 0), _, _, _, _⟩) (.tmp 0) (by with_unfolding_all rfl) (by with_unfolding_all rfl) (by with_unfolding_all rfl) ?_)))
    obtain ⟨b0, B0, R0⟩ := HB.out
    refine (copy_calls _ a1 b c1 R0 (by omega)).mono ?_
    rintro e w1 ⟨a5, c5, rfl, hO, hb1⟩
    have hsz1 : w.heap.size < w1.heap.size := by have := hb1.size; simp at this; omega
    have B1 : Below w.heap.size w w1 := B0.trans (hb1.mono B0.size)
    have HB1 : Hid (w1.heap[w.heap.size]? = some (.cells C 24 (0, 0))) := (hb1.block _ (by simp)).trans b0
    have HR1 : Hid (Row w1 a1 b c1) := R0.stay hb1
    have HM1 : Hid (Row w1 a5 b c5) := hO.isRow
    have hEC := eatany_calls w1 s a5 b c5 hO.isRow
    rw [← hC.out] at hEC
    have HEC := Lib.hid hEC
    clear hb1 hO b0 B0 R0 hEC
    go_wp2_with (first
      | ((with_reducible refine wpList_loadB (o := ⟨some 14, .load _ _, _, _, _, _⟩) row_state (.tmp 2) (by with_unfolding_all rfl) (by with_unfolding_all rfl) (by with_unfolding_all rfl) HB1.out HC.out ?_)))
    refine HEC.out.mono ?_
    rintro e w2 ⟨rfl, hb2⟩
    have HB2 : Hid (w2.heap[w.heap.size]? = some (.cells C 24 (0, 0))) := (hb2.block _ hsz1).trans HB1.out
    have HR2 : Hid (Row w2 a1 b c1) := HR1.out.stay hb2
    have HM2 : Hid (Row w2 a5 b c5) := HM1.out.stay hb2
    have B2 := B1.trans (hb2.mono B1.size)
    have hsz2 : w.heap.size < w2.heap.size := by have := hb2.size; omega
    obtain ⟨t, ht⟩ : ∃ t, Hid (t = eatS s b) := ⟨_, rfl⟩
    obtain ⟨er, her⟩ : ∃ er, Hid (er = eatE b) := ⟨_, rfl⟩
    rw [← ht.out, ← her.out]
    obtain ⟨D, hD⟩ : ∃ D, Hid (D = (t.l.map vw).toArray) := ⟨_, rfl⟩
    rw [← hD.out]
    have HD : Hid (D.size = 8) := by rw [Hid, hD.out]; exact agg_len t
    have HDo : Hid (D.all (·.oneCell') = true) := by rw [Hid, hD.out]; exact arr_ok _
    have HN2 : Hid ((w2.alloc (.cells Z 24)).heap[w2.heap.size]? = some (.cells Z 24 (0, 0))) := heap_alloc_new _ _
    clear hb2 B1 HB1 HR1 HM1
    go_wp2_with (first
      | ((with_reducible refine wpList_value (o := ⟨some 6, .alloc _, _, _, _, _⟩) (by with_unfolding_all rfl) (HA.out _ _ _ _ _ _) ?_))
      | ((with_reducible refine wpList_storeB (o := ⟨none, .store _ (.tmp 6) (.tmp 17), _, _, _, _⟩) row_state (.tmp 6) (.tmp 17) (by with_unfolding_all rfl) (by with_unfolding_all rfl) (by with_unfolding_all rfl) (by with_unfolding_all rfl) (by with_unfolding_all rfl) HN2.out HZ.out HD.out HDo.out ?_); intro w3 hb3 hS3))
    have hs3 := hS3.size
    rw [World.size_alloc] at hs3
    have hA2 : Below w2.heap.size w2 (w2.alloc (.cells Z 24)) := (Below.refl _ _).alloc (Nat.le_refl _) _
    have B3' : Below w2.heap.size w2 w3 := hA2.trans (hS3.below (by simp) (fun j hj => by omega))
    have HB3 : Hid (w3.heap[w.heap.size]? = some (.cells C 24 (0, 0))) := (B3'.block _ hsz2).trans HB2.out
    have HR3 : Hid (Row w3 a1 b c1) := HR2.out.stay B3'
    have HM3 : Hid (Row w3 a5 b c5) := HM2.out.stay B3'
    have HT3 := Lib.hid hb3
    have B3 := B2.trans (B3'.mono B2.size)
    clear hb3 hS3 hA2 B3' HB2 HR2 HM2 B2
    refine wp_region_ty (eatsT s t b (.slice a5 b.length c5) (.slice a1 b.length c1)) (by kernel_rfl) (by kernel_rfl) ?_ ?_
    · refine opsAll_cons ?_ (opsAll_cons ?_ (opsAll_cons ?_ (opsAll_cons ?_ (opsAll_cons ?_ (opsAll_cons ?_ (opsAll_cons ?_ (opsAll_cons ?_ (opsAll_cons ?_ (opsAll_cons ?_ (opsAll_cons ?_ (opsAll_cons ?_ (opsAll_cons ?_ (opsAll_cons ?_ (opsAll_cons ?_ (opsAll_cons ?_ (opsAll_cons ?_ (opsAll_cons ?_ opsAll_nil)))))))))))))))))
      all_goals intro a wx hk
      · -- slot 19
        exact ⟨wanted_free rfl, g_move (.tmp 5) rfl (hk.old 5 (by kernel_rfl))⟩
      · -- slot 20
        exact ⟨wanted_free rfl, g_move (.tmp 1) rfl (hk.old 1 (by kernel_rfl))⟩
      · -- slot 21
        exact ⟨wanted_free rfl, g_call hk.below.size rfl (hk.fn _) #[.slice a5 b.length c5, .slice a1 b.length c1] (fun w => by kernel_rfl) (by simp [show a.eval (.tmp 19) = _ from hk.slot 19 (by kernel_rfl), show a.eval (.tmp 20) = _ from hk.slot 20 (by kernel_rfl)]) ((same_calls wx a5 a1 b b c5 c1 (HM3.out.stay hk.below) (HR3.out.stay hk.below)).mono fun e w3 ⟨he, hd⟩ => ⟨_, he, hd.below _, by show Value.bool _ = Value.bool _; rw [ordB_self]⟩)⟩
      · -- slot 22
        exact ⟨wanted_free rfl, g_not rfl _ (hk.slot 21 (by kernel_rfl)) rfl⟩
      · -- slot 23
        exact ⟨wanted_free rfl, g_move (.tmp 22) rfl (hk.slot 22 (by kernel_rfl))⟩
      · -- slot 24
        exact ⟨wanted_by 23 false (by kernel_rfl) (hk.slot 23 (by kernel_rfl)), g_call hk.below.size rfl (hk.fn _) #[] (fun w => by kernel_rfl) (by simp) ((First_calls wx).mono fun e w3 ⟨he, hd⟩ => ⟨_, he, hd, rfl⟩)⟩
      · -- slot 25
        exact ⟨wanted_by 23 false (by kernel_rfl) (hk.slot 23 (by kernel_rfl)), g_call hk.below.size rfl (hk.fn _) #[] (fun w => by kernel_rfl) (by simp) ((reffirst_calls wx).mono fun e w3 ⟨he, hv, hd, _⟩ => ⟨_, he, hd, _, _, rfl, hv.vec cw_len⟩)⟩
      · -- slot 26
        exact ⟨wanted_by 23 false (by kernel_rfl) (hk.slot 23 (by kernel_rfl)), eats_same hk.below.size rfl (hk.fn _) (hk.slot 24 (by kernel_rfl)) (hk.slot 25 (by kernel_rfl)) rfl rfl⟩
      · -- slot 27
        exact ⟨wanted_by 23 false (by kernel_rfl) (hk.slot 23 (by kernel_rfl)), g_not rfl _ (hk.slot 26 (by kernel_rfl)) rfl⟩
      · -- slot 28
        exact ⟨wanted_free rfl, g_pick rfl false (hk.slot 23 (by kernel_rfl)) (hk.slot 27 (by kernel_rfl))⟩
      · -- slot 29
        exact ⟨wanted_free rfl, g_move (.tmp 28) rfl (hk.slot 28 (by kernel_rfl))⟩
      · -- slot 30
        exact ⟨wanted_by 29 false (by kernel_rfl) (hk.slot 29 (by kernel_rfl)), g_loadB row_state (.tmp 2) rfl (hk.old 2 (by kernel_rfl)) ((hk.below.block _ (Array.getElem?_eq_some_iff.1 HB3.out).1).trans HB3.out) HC.out (by rw [hC.out]; rfl)⟩
      · -- slot 31
        exact ⟨wanted_by 29 false (by kernel_rfl) (hk.slot 29 (by kernel_rfl)), g_call hk.below.size rfl (hk.fn _) #[.agg (s.l.map vw).toArray] (fun w => by kernel_rfl) (by simp [show a.eval (.tmp 30) = _ from hk.slot 30 (by kernel_rfl)]) ((print_calls wx s).mono fun e w3 ⟨he, hd⟩ => ⟨_, he, hd, rfl⟩)⟩
      · -- slot 32
        exact ⟨wanted_by 29 false (by kernel_rfl) (hk.slot 29 (by kernel_rfl)), g_loadB row_state (.tmp 2) rfl (hk.old 2 (by kernel_rfl)) ((hk.below.block _ (Array.getElem?_eq_some_iff.1 HB3.out).1).trans HB3.out) HC.out (by rw [hC.out]; rfl)⟩
      · -- slot 33
        exact ⟨wanted_by 29 false (by kernel_rfl) (hk.slot 29 (by kernel_rfl)), g_call hk.below.size rfl (hk.fn _) #[.agg (s.l.map vw).toArray] (fun w => by kernel_rfl) (by simp [show a.eval (.tmp 32) = _ from hk.slot 32 (by kernel_rfl)]) ((statrow_calls wx s).mono fun e w3 ⟨a, c, he, hv, hd⟩ => ⟨_, he, hd, _, _, rfl, hv.vec cw_len⟩)⟩
      · -- slot 34
        exact ⟨wanted_by 29 false (by kernel_rfl) (hk.slot 29 (by kernel_rfl)), eats_print hk.below.size rfl (hk.fn _) (hk.slot 33 (by kernel_rfl)) rfl⟩
      · -- slot 35
        exact ⟨wanted_by 29 false (by kernel_rfl) (hk.slot 29 (by kernel_rfl)), g_bin rfl (hk.slot 31 (by kernel_rfl)) (hk.slot 34 (by kernel_rfl)) (run_neq_op tagT.guard _ _ (run_eq_bytes tagT _ _ (printB_len s) (printB_len s))) (by show Value.bool _ = Value.bool _; simp)⟩
      · -- slot 36
        exact ⟨wanted_free rfl, g_pick rfl false (hk.slot 29 (by kernel_rfl)) (hk.slot 35 (by kernel_rfl))⟩
    intro a wz hbz hsame hall
    have he := act_same hsame [19, 20, 21, 22, 23, 24, 25, 26, 27, 28, 29, 30, 31, 32, 33, 34, 35, 36] (by kernel_rfl)
    obtain ⟨a25, c25, e25, r25⟩ := hall 25 (by kernel_rfl)
    obtain ⟨a33, c33, e33, r33⟩ := hall 33 (by kernel_rfl)
    simp only [List.foldl_cons, List.foldl_nil] at he
    rw [show a.eval (.tmp 19) = _ from hall 19 (by kernel_rfl), show a.eval (.tmp 20) = _ from hall 20 (by kernel_rfl), show a.eval (.tmp 21) = _ from hall 21 (by kernel_rfl), show a.eval (.tmp 22) = _ from hall 22 (by kernel_rfl), show a.eval (.tmp 23) = _ from hall 23 (by kernel_rfl), show a.eval (.tmp 24) = _ from hall 24 (by kernel_rfl), e25, show a.eval (.tmp 26) = _ from hall 26 (by kernel_rfl), show a.eval (.tmp 27) = _ from hall 27 (by kernel_rfl), show a.eval (.tmp 28) = _ from hall 28 (by kernel_rfl), show a.eval (.tmp 29) = _ from hall 29 (by kernel_rfl), show a.eval (.tmp 30) = _ from hall 30 (by kernel_rfl), show a.eval (.tmp 31) = _ from hall 31 (by kernel_rfl), show a.eval (.tmp 32) = _ from hall 32 (by kernel_rfl), e33, show a.eval (.tmp 34) = _ from hall 34 (by kernel_rfl), show a.eval (.tmp 35) = _ from hall 35 (by kernel_rfl), show a.eval (.tmp 36) = _ from hall 36 (by kernel_rfl)] at he
    simp only [Act.put, List.setIfInBounds_toArray, List.set_cons_zero, List.set_cons_succ] at he
    subst he
    clear hsame hall e25 e33
    have HB4 : Hid (wz.heap[w.heap.size]? = some (.cells C 24 (0, 0))) := (hbz.block _ (Array.getElem?_eq_some_iff.1 HB3.out).1).trans HB3.out
    have HT4 : Hid (wz.heap[w2.heap.size]? = some (.cells D 24 (0, 0))) := (hbz.block _ (Array.getElem?_eq_some_iff.1 HT3.out).1).trans HT3.out
    have HR4 : Hid (Row wz a1 b c1) := HR3.out.stay hbz
    have B4 := B3.trans (hbz.mono B3.size)
    clear hbz HB3 HT3 HR3 HM3 B3 r25 r33
    by_cases h64 : b.length = 64
    · have d2 : ((b.length : Int) != 64) = false := by rw [bne_eq_false_iff_eq]; omega
      have d2' : (b.length != 64) = false := by rw [bne_eq_false_iff_eq]; exact h64
      have H64 : Hid (b.length = 64 ∧ b.length = 64) := ⟨h64, h64⟩
      have HE4 : Hid (s.eat kTab b = t) := by rw [Hid, ht.out, eatS, if_pos h64]
      have her0 : Hid (er = 0) := by rw [Hid, her.out, eatE, if_pos h64]
      clear h64
      have HQ : er = 0 := her0.out
      subst HQ
      go_wp2_with fail
      refine wp_region_ty (eatsT s t b (.slice a5 b.length c5) (.slice a1 b.length c1)) (by kernel_rfl) (by kernel_rfl) ?_ ?_
      · refine opsAll_cons ?_ (opsAll_cons ?_ (opsAll_cons ?_ (opsAll_cons ?_ (opsAll_cons ?_ (opsAll_cons ?_ (opsAll_cons ?_ (opsAll_cons ?_ (opsAll_cons ?_ (opsAll_cons ?_ (opsAll_cons ?_ opsAll_nil))))))))))
        all_goals intro a wx hk
        · -- slot 47
          exact ⟨wanted_free rfl, g_move (.tmp 7) rfl (hk.old 7 (by kernel_rfl))⟩
        · -- slot 48
          exact ⟨wanted_free rfl, g_bin rfl (hk.slot 47 (by kernel_rfl)) (hk.lit _) (fun w => by kernel_rfl) rfl⟩
        · -- slot 49
          exact ⟨wanted_free rfl, g_move (.tmp 48) rfl (hk.slot 48 (by kernel_rfl))⟩
        · -- slot 50
          exact ⟨wanted_by 49 true (by kernel_rfl) (hk.slot 49 (by kernel_rfl)), g_loadB row_state (.tmp 6) rfl (hk.old 6 (by kernel_rfl)) ((hk.below.block _ (Array.getElem?_eq_some_iff.1 HT4.out).1).trans HT4.out) HD.out (by rw [hD.out]; rfl)⟩
        · -- slot 51
          exact ⟨wanted_by 49 true (by kernel_rfl) (hk.slot 49 (by kernel_rfl)), g_loadB row_state (.tmp 2) rfl (hk.old 2 (by kernel_rfl)) ((hk.below.block _ (Array.getElem?_eq_some_iff.1 HB4.out).1).trans HB4.out) HC.out (by rw [hC.out]; rfl)⟩
        · -- slot 52
          exact ⟨wanted_by 49 true (by kernel_rfl) (hk.slot 49 (by kernel_rfl)), g_call hk.below.size rfl (hk.fn _) #[.agg (s.l.map vw).toArray] (fun w => by kernel_rfl) (by simp [show a.eval (.tmp 51) = _ from hk.slot 51 (by kernel_rfl)]) ((statrow_calls wx s).mono fun e w3 ⟨a, c, he, hv, hd⟩ => ⟨_, he, hd, _, _, rfl, hv.vec cw_len⟩)⟩
        · -- slot 53
          exact ⟨wanted_by 49 true (by kernel_rfl) (hk.slot 49 (by kernel_rfl)), g_move (.tmp 1) rfl (hk.old 1 (by kernel_rfl))⟩
        · -- slot 54
          exact ⟨wanted_by 49 true (by kernel_rfl) (hk.slot 49 (by kernel_rfl)), eats_eat hk.below.size rfl (hk.fn _) (hk.slot 52 (by kernel_rfl)) (hk.slot 53 (by kernel_rfl)) (HR4.out.stay hk.below) H64.out HE4.out rfl⟩
        · -- slot 55
          exact ⟨wanted_by 49 true (by kernel_rfl) (hk.slot 49 (by kernel_rfl)), eats_same hk.below.size rfl (hk.fn _) (hk.slot 50 (by kernel_rfl)) (hk.slot 54 (by kernel_rfl)) rfl rfl⟩
        · -- slot 56
          exact ⟨wanted_free rfl, g_pick rfl true (hk.slot 49 (by kernel_rfl)) (hk.slot 55 (by kernel_rfl))⟩
        · -- slot 4
          exact ⟨wanted_free rfl, g_assign (.tmp 56) rfl (hk.slot 56 (by kernel_rfl))⟩
      intro a wz hbz hsame hall
      have h0 := hall 4 (by kernel_rfl)
      have hd := hsame.1
      rename_i hK
      refine hK a wz ?_
      apply wp_ret
      refine bodyPost_ret (results_tmp rfl _ _ _) hd ⟨congrArg Ending.returned h0, ?_⟩
      exact B4.trans (hbz.mono B4.size)
    · have d2 : ((b.length : Int) != 64) = true := by rw [bne_iff_ne]; omega
      have d2' : (b.length != 64) = true := by rw [bne_iff_ne]; exact h64
      have HQ : er = 2 := by rw [her.out, eatE, if_neg h64]
      subst HQ
      have HE4 : Hid (t = zero8) := by rw [Hid, ht.out, eatS, if_neg h64]
      clear h64
      have HBU := Lib.hid (fun ρ d ty ps af gd w => build_state ρ d ty ps (af := af) (gd := gd) w)
      have HDZ : Hid (D = (zero8.l.map vw).toArray) := by rw [Hid, hD.out, HE4.out]
      rw [← HDZ.out] at HBU
      have HEQ : Hid (∀ w, (Op.equalIn 10000 24 (.agg D) (.agg D)).run Try.prog w = .ok true w) := by
        intro w; rw [HDZ.out, run_eq_words stT _ _ rfl rfl]; simp
      clear hD
      go_wp2_with (first
        | ((with_reducible refine wpList_value_gd (o := ⟨some 43, .load _ _, _, _, _, _⟩) (by with_unfolding_all rfl) (exec_loadB row_state (.tmp 6) (by with_unfolding_all rfl) (by with_unfolding_all rfl) HT4.out HD.out) ?_))
        | ((with_reducible refine wpList_value_gd (o := ⟨some 44, .build _ _, _, _, _, _⟩) (by with_unfolding_all rfl) (HBU.out _ _ _ _ _ _ _) ?_))
        | ((with_reducible refine wpList_value_gd (o := ⟨some 45, .binOp _ _ _ _ _, _, _, _, _⟩) (by with_unfolding_all rfl) (exec_bin (by with_unfolding_all rfl) (by with_unfolding_all rfl) (by with_unfolding_all rfl) (run_eql_op stT.guard _ _ HEQ.out) _) ?_)))
      go_ret
      exact ⟨rfl, B4⟩
end Go.Proofs.Ytiemafgnpmoblaa
