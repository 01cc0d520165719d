/- frame.whole, Kind, Open: contracts. -/
import Derived.Test.YtbglmglgaobjmaaFrameSeal
import Derived.Laws.EntriesVeiled
import Derived.Deep.CutBlock
namespace Go.Proofs.Ytbglmglgaobjmaa
open Go Go.RowKit Go.Cit

/-- The size that a frame tells. -/
def szB (l : List UInt8) : Nat := (l.getD 1 0).toNat
/-- What stands behind a frame's payload, ahead of its sum. -/
def restB (l : List UInt8) : List UInt8 := (l.take 60).drop (2 + szB l)
/-- The payload. -/
def paylB (l : List UInt8) : List UInt8 := (l.take (2 + szB l)).drop 2
def zeroB (l : List UInt8) : Bool := decide (restB l = List.replicate (restB l).length 0)
/-- Is it a frame? -/
def wholeB (l : List UInt8) : Bool := decide (l.length = 64) && (okB l && (decide (szB l ≤ 58) && zeroB l))

theorem szB_get (l : List UInt8) (h : 1 < l.length) : szB l = l[1].toNat := by simp [szB, List.getD, h]

theorem fsize_calls (w : World) (a0 : Option Addr) (l : List UInt8) (c0 : Nat) (h0 : Row w a0 l c0) (hl : 1 < l.length) :
    Calls Try.prog 58 #[.slice a0 l.length c0] w fun e w' => e = .returned (.int .i64 (szB l : Int)) ∧ w' = w := by
  have i0 := h0.index bt.slice bt.sz 1 hl
  rw [show ((1 : Nat) : Int) = 1 from rfl] at i0
  have e0 := h0.cell 1 hl
  have HZ := Lib.hid (szB_get l hl)
  go_enter Try.func58, Try.ntmps58
  go_wp2_with fail
  go_ret
  have hx := l[1].toNat_lt
  exact ⟨by rw [HZ.out]; exact ret_int (IntWalk.wrap64_in _ (by omega)), rfl⟩

theorem whole1_calls (w : World) (b : Nat) (a0 : Option Addr) (l : List UInt8) (c0 : Nat) (hc : w.cell? ⟨b, 0, none⟩ = some (.slice a0 l.length c0)) :
    Calls Try.prog 65 #[.pointer (some ⟨b, 0, none⟩)] w fun e w' => e = .returned (.bool (decide (l.length = 64))) ∧ w' = w := by
  go_enter Try.func65, Try.ntmps65
  go_wp2_with fail
  go_ret
  exact ⟨ret_bool (decide_eq_decide.2 (by omega)), rfl⟩

theorem whole2_calls (w : World) (b : Nat) (a0 : Option Addr) (l : List UInt8) (c0 : Nat) (h0 : Row w a0 l c0) (hl : l.length ≤ 200000000) (hc : w.cell? ⟨b, 0, none⟩ = some (.slice a0 l.length c0)) :
    Calls Try.prog 66 #[.pointer (some ⟨b, 0, none⟩)] w fun e w' => e = .returned (.bool (okB l)) ∧ Below w.heap.size w w' := by
  go_enter Try.func66, Try.ntmps66
  go_wp2_with fail
  refine (crccheck_calls _ _ _ _ h0 hl).mono ?_
  rintro e w1 ⟨a1, X, c1, HX, rfl, hm1, hb1⟩
  go_wp2_with fail
  go_ret
  exact ⟨rfl, hb1⟩

theorem whole3_calls (w : World) (b : Nat) (a0 : Option Addr) (l : List UInt8) (c0 : Nat) (h0 : Row w a0 l c0) (hl : 1 < l.length) (hc : w.cell? ⟨b, 0, none⟩ = some (.slice a0 l.length c0)) :
    Calls Try.prog 67 #[.pointer (some ⟨b, 0, none⟩)] w fun e w' => e = .returned (.bool (decide (szB l ≤ 58))) ∧ w' = w := by
  go_enter Try.func67, Try.ntmps67
  go_wp2_with fail
  refine (fsize_calls _ _ _ _ h0 hl).mono ?_
  rintro e w1 ⟨rfl, rfl⟩
  go_wp2_with fail
  go_ret
  exact ⟨ret_bool (decide_eq_decide.2 (by omega)), rfl⟩

theorem whole4_calls (w : World) (b : Nat) (a0 : Option Addr) (l : List UInt8) (c0 : Nat) (h0 : Row w a0 l c0) (hl : l.length = 64) (hz : szB l ≤ 58) (hc : w.cell? ⟨b, 0, none⟩ = some (.slice a0 l.length c0)) :
    Calls Try.prog 68 #[.pointer (some ⟨b, 0, none⟩)] w fun e w' => e = .returned (.bool (zeroB l)) ∧ Below w.heap.size w w' := by
  obtain ⟨a1, m, c1, hm, hrun, r1⟩ := h0.part bt.slice bt.sz (2 + szB l) 60 (by omega) (by omega)
  have HM : Hid (m = restB l) := hm
  have hml : m.length ≤ 60 := by rw [hm, List.length_drop, List.length_take]; omega
  rw [show ((2 + szB l : Nat) : Int) = 2 + (szB l : Int) by omega, show ((60 : Nat) : Int) = 60 from rfl] at hrun
  have hcn : ∀ n, (w.drewN n).cell? ⟨b, 0, none⟩ = some (.slice a0 l.length c0) := fun n => hc
  have HL := Lib.hid hl
  have h1 : 1 < l.length := by omega
  clear hm hl
  go_enter Try.func68, Try.ntmps68
  go_upto_region 1 with fail
  go_quiet ((go_at_call 58; exact Calls.quiet_of_same (fsize_calls _ _ _ _ (h0.drewN _) h1)))
  go_wp2_with (refine wp_make_bytes bt (.tmp 10) (.tmp 10) rfl rfl m.length .i64 .i64 rfl rfl rfl (by omega) ?_; intro w2 hown hgr hsz)
  have B : Below w.heap.size w w2 := (below_drewN _ _ _).trans ((Below.refl _ _).grown hgr (Nat.le_refl _) (fun k hk => by cases hk))
  have q1 := r1.stay B
  have q2 := hown.isRow
  have HR : Hid ((List.replicate m.length (0 : UInt8)).length = m.length) := by rw [Hid, List.length_replicate]
  have hk := wsame_calls _ _ _ _ _ _ _ q1 q2
  rw [HR.out] at hk
  clear hown hgr
  refine hk.mono ?_
  rintro e w3 ⟨rfl, rfl⟩
  go_wp2_with fail
  go_ret
  exact ⟨by rw [ordB_beq, HM.out]; rfl, B⟩

theorem asks0 (a b c d : Value) (w : World) : (Instr.index 75 (.agg #[a, b, c, d]) (.int .i64 0)).run Try.prog w = .ok a w := by kernel_rfl
theorem asks1 (a b c d : Value) (w : World) : (Instr.index 75 (.agg #[a, b, c, d]) (.int .i64 1)).run Try.prog w = .ok b w := by kernel_rfl
theorem asks2 (a b c d : Value) (w : World) : (Instr.index 75 (.agg #[a, b, c, d]) (.int .i64 2)).run Try.prog w = .ok c w := by kernel_rfl
theorem asks3 (a b c d : Value) (w : World) : (Instr.index 75 (.agg #[a, b, c, d]) (.int .i64 3)).run Try.prog w = .ok d w := by kernel_rfl

set_option maxHeartbeats 1000000 in
theorem whole_calls (w : World) (a0 : Option Addr) (l : List UInt8) (c0 : Nat) (h0 : Row w a0 l c0) (hl : l.length ≤ 200000000) :
    Calls Try.prog 59 #[.slice a0 l.length c0] w fun e w' => e = .returned (.bool (wholeB l)) ∧ Below w.heap.size w w' := by
  have hmf : ∀ (fn : Fn) (first cap : Array Value) (w : World), (Instr.makeFunc fn first cap).run Try.prog w = .ok (.func fn first cap) w := fun _ _ _ _ => rfl
  have x0 := asks0
  have x1 := asks1
  have x2 := asks2
  have x3 := asks3
  go_enter Try.func59, Try.ntmps59
  go_wp2_with fail
  obtain ⟨W, HW⟩ : ∃ W, Hid (W = (w.alloc (Obj.cells #[Value.slice a0 l.length c0] 23)).alloc (Obj.cells #[Value.func (Fn.func 65) #[] #[Value.pointer (some { block := w.heap.size, off := 0 })], Value.func (Fn.func 66) #[] #[Value.pointer (some { block := w.heap.size, off := 0 })], Value.func (Fn.func 67) #[] #[Value.pointer (some { block := w.heap.size, off := 0 })], Value.func (Fn.func 68) #[] #[Value.pointer (some { block := w.heap.size, off := 0 })]] 75)) := ⟨_, rfl⟩
  rw [← HW.out]
  have hc : W.cell? ⟨w.heap.size, 0, none⟩ = some (.slice a0 l.length c0) := by rw [HW.out]; simp
  have B : Below w.heap.size w W := by rw [HW.out]; exact ((Below.refl _ _).alloc (Nat.le_refl _) _).alloc (by simp) _
  have hbk : w.heap.size < W.heap.size := by rw [HW.out]; simp; omega
  have r0 := h0.stay B
  clear HW hmf
  refine wp_loop_rounds 5 ?_
  rw [rounds_succ]
  go_wp2_with fail
  refine (whole1_calls _ _ _ _ _ hc).mono ?_
  rintro e w1 ⟨rfl, rfl⟩
  by_cases hl64 : l.length = 64
  · have g1 : decide (l.length = 64) = true := by simp [hl64]
    have HL := Lib.hid hl64
    clear hl64
    go_wp2_with fail
    rw [rounds_succ]
    go_wp2_with fail
    refine (whole2_calls _ _ _ _ _ r0 hl hc).mono ?_
    rintro e w2 ⟨rfl, hb2⟩
    have r2 := r0.stay hb2
    have hc2 := (hb2.cell (p := ⟨w.heap.size, 0, none⟩) hbk).trans hc
    have B2 := B.trans (hb2.mono B.size)
    clear r0 hc B hb2 hbk g1
    cases hok : okB l
    · have HK := Lib.hid hok
      go_wp2_with fail
      go_ret
      exact ⟨by rw [wholeB, HL.out, HK.out]; rfl, B2⟩
    have HK := Lib.hid hok
    have h1 : 1 < l.length := by rw [HL.out]; decide
    go_wp2_with fail
    clear hok
    rw [rounds_succ]
    go_wp2_with fail
    refine (whole3_calls _ _ _ _ _ r2 h1 hc2).mono ?_
    rintro e w3 ⟨rfl, rfl⟩
    by_cases hz : szB l ≤ 58
    · have g3 : decide (szB l ≤ 58) = true := by simp [hz]
      have HZ := Lib.hid hz
      clear hz
      go_wp2_with fail
      clear g3
      rw [rounds_succ]
      go_wp2_with fail
      refine (whole4_calls _ _ _ _ _ r2 HL.out HZ.out hc2).mono ?_
      rintro e w4 ⟨rfl, hb4⟩
      have B4 := B2.trans (hb4.mono B2.size)
      cases hzr : zeroB l
      · have HR := Lib.hid hzr
        go_wp2_with fail
        go_ret
        exact ⟨by rw [wholeB, HL.out, HK.out, HR.out]; simp, B4⟩
      · have HR := Lib.hid hzr
        go_wp2_with fail
        clear hzr
        rw [rounds_succ]
        go_wp2_with fail
        go_ret
        exact ⟨by rw [wholeB, HL.out, HK.out, HR.out]; have := HZ.out; simp [this], B4⟩
    · have g3 : decide (szB l ≤ 58) = false := by simp [hz]
      have HZ := Lib.hid hz
      clear hz
      go_wp2_with fail
      go_ret
      exact ⟨by rw [wholeB, HL.out, HK.out]; have := HZ.out; simp [this], B2⟩
  · have g1 : decide (l.length = 64) = false := by simp [hl64]
    have HL := Lib.hid hl64
    clear hl64
    go_wp2_with fail
    go_ret
    exact ⟨by rw [wholeB]; have := HL.out; simp [this], B⟩


/-- The kind that a frame tells. -/
def kindB (l : List UInt8) : UInt8 := if wholeB l then l.getD 0 0 else 0
def openB (kind : UInt8) (l : List UInt8) : Bool := wholeB l && decide (l.getD 0 0 = kind)
def openedB (kind : UInt8) (l : List UInt8) : List UInt8 := if openB kind l then paylB l else []
def oerrB (kind : UInt8) (l : List UInt8) : Int := if openB kind l then 0 else 70

theorem whole_len {l : List UInt8} (h : wholeB l = true) : l.length = 64 ∧ szB l ≤ 58 := by
  simp only [wholeB, Bool.and_eq_true, decide_eq_true_eq] at h; exact ⟨h.1, h.2.2.1⟩

theorem fkind_calls (w : World) (a0 : Option Addr) (l : List UInt8) (c0 : Nat) (h0 : Row w a0 l c0) (hl : l.length ≤ 200000000) :
    Calls Try.prog 48 #[.slice a0 l.length c0] w fun e w' => e = .returned (.tuple #[vb (kindB l), .bool (wholeB l)]) ∧ Below w.heap.size w w' := by
  go_enter Try.func48, Try.ntmps48
  go_wp2_with fail
  refine (whole_calls _ _ _ _ h0 hl).mono ?_
  rintro e w1 ⟨rfl, hb⟩
  have r0 := h0.stay hb
  cases hw : wholeB l
  · have HW := Lib.hid hw
    clear h0
    go_wp2_with fail
    go_ret2
    exact ⟨by rw [kindB, HW.out]; rfl, hb⟩
  · have HW := Lib.hid hw
    have h1 : 0 < l.length := by have := (whole_len hw).1; omega
    have i0 := r0.index bt.slice bt.sz 0 h1
    have e0 := r0.cell 0 h1
    rw [show ((0 : Nat) : Int) = 0 from rfl] at i0
    clear h0
    go_wp2_with fail
    go_ret2
    exact ⟨by rw [kindB, HW.out, show l.getD 0 0 = l[0] by simp [List.getD, h1]]; rfl, hb⟩

theorem fopen_calls (w : World) (kind : UInt8) (a0 : Option Addr) (l : List UInt8) (c0 : Nat) (h0 : Row w a0 l c0) (hl : l.length ≤ 200000000) :
    Calls Try.prog 46 #[vb kind, .slice a0 l.length c0] w fun e w' => ∃ a X cp, Hid (X = openedB kind l) ∧ e = .returned (.tuple #[.slice a X.length cp, .int .i64 (oerrB kind l)]) ∧ Mine w.heap.size w' a X cp ∧ Below w.heap.size w w' := by
  go_enter Try.func46, Try.ntmps46
  go_wp2_with fail
  refine (fkind_calls _ _ _ _ h0 hl).mono ?_
  rintro e w1 ⟨rfl, hb⟩
  have r0 := h0.stay hb
  cases hw : wholeB l
  · have HO : Hid (openB kind l = false) := by rw [Hid, openB, hw]; rfl
    go_wp2_with fail
    go_ret2
    exact ⟨none, [], 0, by rw [Hid, openedB, HO.out]; rfl, by rw [oerrB, HO.out]; rfl, Mine.nil _ _, hb⟩
  · by_cases hk : l.getD 0 0 = kind
    · have HO : Hid (openB kind l = true) := by rw [Hid, openB, hw]; simpa using hk
      have g0 : (kindB l != kind) = false := by rw [kindB, hw]; simpa using hk
      have h1 : 1 < l.length := by have := (whole_len hw).1; omega
      obtain ⟨a1, m, c1, hm, hrun, r1⟩ := r0.part bt.slice bt.sz 2 (2 + szB l) (by omega) (by have := whole_len hw; omega)
      have hz := (whole_len hw).2
      have HM : Hid (m = paylB l) := hm
      have hml : m.length ≤ 200000000 := by rw [hm, List.length_drop, List.length_take]; omega
      rw [show ((2 + szB l : Nat) : Int) = 2 + (szB l : Int) by omega, show ((2 : Nat) : Int) = 2 from rfl] at hrun
      clear hm hk
      go_wp2_with fail
      refine (fsize_calls _ _ _ _ r0 h1).mono ?_
      rintro e w2 ⟨rfl, rfl⟩
      go_wp2_with fail
      refine (toX (cat1_calls _ _ r1 (by omega))).mono ?_
      rintro e w3 ⟨a3, Y, c3, HY, rfl, hm3, hb3⟩
      go_wp2_with fail
      go_ret2
      exact ⟨a3, Y, c3, by rw [Hid, openedB, HO.out, HY.out, HM.out]; rfl, by rw [oerrB, HO.out]; rfl, hm3.low hb.size, hb.trans (hb3.mono hb.size)⟩
    · have HO : Hid (openB kind l = false) := by rw [Hid, openB, hw]; simpa using hk
      have g0 : (kindB l != kind) = true := by rw [kindB, hw]; simpa using hk
      clear hk
      go_wp2_with fail
      go_ret2
      exact ⟨none, [], 0, by rw [Hid, openedB, HO.out]; rfl, by rw [oerrB, HO.out]; rfl, Mine.nil _ _, hb⟩

end Go.Proofs.Ytbglmglgaobjmaa
