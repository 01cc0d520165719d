/- valid.windows, parts, regions, channels: walked. -/
import Derived.Test.YtpnbaapjjchlbaaPart
namespace Go.Proofs.Ytpnbaapjjchlbaa
open Go Go.RowKit Go.Cit

/-- A configuration's box. -/
structure InBox (W : World) (B : Nat) (V : CfgV) : Prop where
  c0 : W.cell? ⟨B, 0, none⟩ = some (.slice V.wa V.ws.length V.wc)
  c1 : W.cell? ⟨B, 1, none⟩ = some (.slice V.pa V.ps.length V.pc)
  c2 : W.cell? ⟨B, 2, none⟩ = some (.slice V.ca V.cs.length V.cc)
theorem InBox.keep {W W' : World} {B : Nat} {V : CfgV} (h : InBox W B V) (hb : Below W.heap.size W W') : InBox W' B V := ⟨Go.Cit.keep hb h.c0, Go.Cit.keep hb h.c1, Go.Cit.keep hb h.c2⟩
theorem InBox.lt {W : World} {B : Nat} {V : CfgV} (h : InBox W B V) : B < W.heap.size := World.block_lt_of_cell? W _ h.c0
theorem inBox_new (w : World) (V : CfgV) (T : TypeId) : InBox (w.alloc (.cells #[.slice V.wa V.ws.length V.wc, .slice V.pa V.ps.length V.pc, .slice V.ca V.cs.length V.cc] T)) w.heap.size V := ⟨(box3 w _ _ _ T).1, (box3 w _ _ _ T).2.1, (box3 w _ _ _ T).2.2⟩

def winBad (V : CfgV) (x : Win) : Bool := decide (x.part.1 ≠ 0) && !hasP V.ps x.part.1
set_option maxRecDepth 100000 in
set_option maxHeartbeats 1000000 in
theorem winbad_calls (W : World) (V : CfgV) (h : V.At W) (hs : SmallV V) (B : Nat) (hB : InBox W B V) (x : Win) :
    Calls Try.prog 164 (#[.agg #[.int .i64 x.len.1, .int .i64 x.part.1]] ++ #[.pointer (some ⟨B, 0, none⟩)]) W fun e w' => e = .returned (.bool (winBad V x)) ∧ Below W.heap.size W w' := by
  show Calls Try.prog 164 #[.agg #[.int .i64 x.len.1, .int .i64 x.part.1], .pointer (some ⟨B, 0, none⟩)] W _
  obtain ⟨R, HR⟩ : ∃ R, Hid (R = winBad V x) := ⟨_, rfl⟩
  obtain ⟨m, hm⟩ : ∃ m, Hid (m = hasP V.ps x.part.1) := ⟨_, rfl⟩
  rw [← HR.out]
  have hlt := hB.lt
  have hne : B ≠ W.heap.size := by omega
  have B0 : ∀ C, Below W.heap.size W (W.alloc (.cells C 52)) := fun C => (Below.refl _ W).alloc (Nat.le_refl _) _
  have HC := Lib.hid (has_calls _ V (h.stay (B0 #[.int .i64 x.len.1, .int .i64 x.part.1])) hs x.part.1)
  rw [← hm.out] at HC
  have hk := hB.keep (B0 #[.int .i64 x.len.1, .int .i64 x.part.1])
  obtain ⟨c0, c1, c2⟩ := hk
  have HB0 := Lib.hid B0
  clear B0 hB h
  by_cases hp : x.part.1 = 0
  · have HP := Lib.hid hp
    go_enter Try.func164, Try.ntmps164
    go_wp2_with fail
    go_ret
    exact ⟨ret_bool (by rw [HR.out, winBad, decide_eq_false (by simpa using HP.out)]; rfl), by first | exact HB0.out _ | (rw [← HP.out]; exact HB0.out _)⟩
  · have HP := Lib.hid hp
    go_enter Try.func164, Try.ntmps164
    go_wp2_with fail
    refine (HC.out).mono ?_
    rintro e w2 ⟨rfl, hb2⟩
    have HB2 := Lib.hid ((HB0.out _).trans (hb2.mono (HB0.out _).size))
    clear hb2
    go_wp2_with fail
    go_ret
    exact ⟨ret_bool (by rw [HR.out, winBad, ← hm.out, show (x.part.1 != 0) = true from bne_iff_ne.2 HP.out, decide_eq_true HP.out]), HB2.out⟩

def windowsBad (V : CfgV) : Bool := !mayW V.ws || V.ws.any (winBad V)
set_option maxRecDepth 100000 in
set_option maxHeartbeats 1000000 in
theorem windows_calls (w : World) (V : CfgV) (h : V.At w) (hs : SmallV V) : Calls Try.prog 128 #[.agg #[.slice V.wa V.ws.length V.wc, .slice V.pa V.ps.length V.pc, .slice V.ca V.cs.length V.cc]] w fun e w' => e = .returned (.bool (windowsBad V)) ∧ Below w.heap.size w w' := by
  obtain ⟨R, HR⟩ : ∃ R, Hid (R = windowsBad V) := ⟨_, rfl⟩
  obtain ⟨m, hm⟩ : ∃ m, Hid (m = mayW V.ws) := ⟨_, rfl⟩
  obtain ⟨n, hn⟩ : ∃ m, Hid (m = V.ws.any (winBad V)) := ⟨_, rfl⟩
  rw [← HR.out]
  have B0 : Below w.heap.size w (w.alloc (.cells #[.slice V.wa V.ws.length V.wc, .slice V.pa V.ps.length V.pc, .slice V.ca V.cs.length V.cc] 26)) := (Below.refl _ w).alloc (Nat.le_refl _) _
  have hI := inBox_new w V 26
  have hV := h.stay B0
  have HC := Lib.hid (smay_calls _ V.wa V.ws V.wc hV.win)
  rw [← hm.out] at HC
  have HI := Lib.hid (And.intro hI (And.intro hV B0))
  obtain ⟨c0, c1, c2⟩ := hI
  clear h hV B0
  have HF : Hid (R = (!m || n)) := by rw [Hid, HR.out, hm.out, hn.out]; rfl
  cases m with
  | false =>
    go_enter Try.func128, Try.ntmps128
    go_wp2_with fail
    refine (HC.out).mono ?_
    rintro e w2 ⟨rfl, hb2⟩
    have HB2 := Lib.hid (HI.out.2.2.trans (hb2.mono HI.out.2.2.size))
    clear hb2
    go_wp2_with fail
    go_ret
    exact ⟨ret_bool (by rw [HF.out]; rfl), HB2.out⟩
  | true =>
    go_enter Try.func128, Try.ntmps128
    go_wp2_with fail
    refine (HC.out).mono ?_
    rintro e w2 ⟨rfl, hb2⟩
    have hI2 := HI.out.1.keep hb2
    have hV2 := HI.out.2.1.stay hb2
    have HD := Lib.hid (win_contains (p := winBad V) 164 #[.pointer (some ⟨w.heap.size, 0, none⟩)] (enters_of Try.func164 (by kernel_rfl) rfl) w2 V.wa V.ws V.wc hV2.win
      (fun W i hi hb => (winbad_calls W V (hV2.stay hb) hs w.heap.size (hI2.keep hb) V.ws[i]).mono fun e w' ⟨he, hb'⟩ => ⟨he, hb.trans (hb'.mono hb.size)⟩))
    rw [← hn.out] at HD
    have HB2 := Lib.hid (HI.out.2.2.trans (hb2.mono HI.out.2.2.size))
    obtain ⟨c0, c1, c2⟩ := hI2
    clear hb2 hV2
    go_wp2_with fail
    refine (HD.out).mono ?_
    rintro e w3 ⟨rfl, hb3⟩
    have HB3 := Lib.hid (HB2.out.trans (hb3.mono HB2.out.size))
    clear hb3
    go_wp2_with fail
    go_ret
    exact ⟨ret_bool (by rw [HF.out]; simp), HB3.out⟩

def regBad (x : PtV) : Bool := !mayR x.reg || decide (x.reg.size.1 < x.img.length)
set_option maxRecDepth 100000 in
set_option maxHeartbeats 1000000 in
theorem regbad_calls (W : World) (x : PtV) : Calls Try.prog 166 (#[.agg #[.int .i64 x.id.1, .int .i64 x.reg.base.1, .int .i64 x.reg.size.1, .bool x.keep, .slice x.a x.img.length x.c]] ++ #[]) W fun e w' => e = .returned (.bool (regBad x)) ∧ Below W.heap.size W w' := by
  show Calls Try.prog 166 #[.agg #[.int .i64 x.id.1, .int .i64 x.reg.base.1, .int .i64 x.reg.size.1, .bool x.keep, .slice x.a x.img.length x.c]] W _
  obtain ⟨R, HR⟩ : ∃ R, Hid (R = regBad x) := ⟨_, rfl⟩
  obtain ⟨m, hm⟩ : ∃ m, Hid (m = mayR x.reg) := ⟨_, rfl⟩
  rw [← HR.out]
  have B0 : Below W.heap.size W (W.alloc (.cells #[.int .i64 x.id.1, .int .i64 x.reg.base.1, .int .i64 x.reg.size.1, .bool x.keep, .slice x.a x.img.length x.c] 43)) := (Below.refl _ W).alloc (Nat.le_refl _) _
  have HC := Lib.hid (rmay_calls (W.alloc (.cells #[.int .i64 x.id.1, .int .i64 x.reg.base.1, .int .i64 x.reg.size.1, .bool x.keep, .slice x.a x.img.length x.c] 43)) x.reg)
  rw [← hm.out] at HC
  have HN : Hid ((W.alloc (.cells #[.int .i64 x.id.1, .int .i64 x.reg.base.1, .int .i64 x.reg.size.1, .bool x.keep, .slice x.a x.img.length x.c] 43)).heap[W.heap.size]? = some (.cells #[.int .i64 x.id.1, .int .i64 x.reg.base.1, .int .i64 x.reg.size.1, .bool x.keep, .slice x.a x.img.length x.c] 43 (0, 0))) := heap_alloc_new _ _
  have HB0 := Lib.hid B0
  clear B0
  have HF : Hid (R = (!m || decide (x.reg.size.1 < x.img.length))) := by rw [Hid, HR.out, hm.out]; rfl
  cases m with
  | false =>
    go_enter Try.func166, Try.ntmps166
    go_wp2_with fail
    refine (HC.out).mono ?_
    rintro e w2 ⟨rfl, hb2⟩
    have HB2 := Lib.hid (HB0.out.trans (hb2.mono HB0.out.size))
    clear hb2
    go_wp2_with fail
    go_ret
    exact ⟨ret_bool (by rw [HF.out]; rfl), HB2.out⟩
  | true =>
    go_enter Try.func166, Try.ntmps166
    go_wp2_with fail
    refine (HC.out).mono ?_
    rintro e w2 ⟨rfl, hb2⟩
    have e2 := (hb2.block W.heap.size (by simp)).trans HN.out
    have k2 := cells_of e2 2 rfl
    have k4 := cells_of e2 4 rfl
    have HB2 := Lib.hid (HB0.out.trans (hb2.mono HB0.out.size))
    clear hb2 e2
    go_wp2_with fail
    all_goals
      go_ret
      refine ⟨ret_bool ?_, HB2.out⟩
      rw [HF.out]
      simp
def regionsBad (ps : List PtV) : Bool := ps.any regBad
set_option maxRecDepth 100000 in
theorem regions_calls (w : World) (V : CfgV) (h : V.At w) : Calls Try.prog 130 #[.agg #[.slice V.wa V.ws.length V.wc, .slice V.pa V.ps.length V.pc, .slice V.ca V.cs.length V.cc]] w fun e w' => e = .returned (.bool (regionsBad V.ps)) ∧ Below w.heap.size w w' := by
  have B0 : Below w.heap.size w (w.alloc (.cells #[.slice V.wa V.ws.length V.wc, .slice V.pa V.ps.length V.pc, .slice V.ca V.cs.length V.cc] 26)) := (Below.refl _ w).alloc (Nat.le_refl _) _
  obtain ⟨c0, c1, c2⟩ := inBox_new w V 26
  have HD := Lib.hid (pts_contains (p := regBad) 166 #[] (enters_of Try.func166 (by kernel_rfl) rfl) _ V.pa V.ps V.pc (h.stay B0).pts
      (fun W i hi hb => (regbad_calls W V.ps[i]).mono fun e w' ⟨he, hb'⟩ => ⟨he, hb.trans (hb'.mono hb.size)⟩))
  obtain ⟨n, hn⟩ : ∃ m, Hid (m = regionsBad V.ps) := ⟨_, rfl⟩
  rw [show V.ps.any regBad = n from hn.out.symm] at HD
  rw [← hn.out]
  have HB0 := Lib.hid B0
  clear B0 h
  go_enter Try.func130, Try.ntmps130
  go_wp2_with fail
  refine (HD.out).mono ?_
  rintro e w3 ⟨rfl, hb3⟩
  have HB3 := Lib.hid (HB0.out.trans (hb3.mono HB0.out.size))
  clear hb3
  go_wp2_with fail
  go_ret
  exact ⟨rfl, HB3.out⟩

def chBad (V : CfgV) (x : Ch) : Bool := !hasP V.ps x.src.1 || !hasP V.ps x.dst.1
set_option maxRecDepth 100000 in
set_option maxHeartbeats 1000000 in
theorem chbad_calls (W : World) (V : CfgV) (h : V.At W) (hs : SmallV V) (B : Nat) (hB : InBox W B V) (x : Ch) :
    Calls Try.prog 168 (#[.agg #[.int .i64 x.id.1, .int .i64 x.src.1, .int .i64 x.dst.1, .int .i64 x.cap.1, .int .i64 x.size.1]] ++ #[.pointer (some ⟨B, 0, none⟩)]) W fun e w' => e = .returned (.bool (chBad V x)) ∧ Below W.heap.size W w' := by
  show Calls Try.prog 168 #[.agg #[.int .i64 x.id.1, .int .i64 x.src.1, .int .i64 x.dst.1, .int .i64 x.cap.1, .int .i64 x.size.1], .pointer (some ⟨B, 0, none⟩)] W _
  obtain ⟨R, HR⟩ : ∃ R, Hid (R = chBad V x) := ⟨_, rfl⟩
  obtain ⟨m, hm⟩ : ∃ m, Hid (m = hasP V.ps x.src.1) := ⟨_, rfl⟩
  obtain ⟨n, hn⟩ : ∃ m, Hid (m = hasP V.ps x.dst.1) := ⟨_, rfl⟩
  rw [← HR.out]
  have hlt := hB.lt
  have hne : B ≠ W.heap.size := by omega
  have B0 : Below W.heap.size W (W.alloc (.cells #[.int .i64 x.id.1, .int .i64 x.src.1, .int .i64 x.dst.1, .int .i64 x.cap.1, .int .i64 x.size.1] 54)) := (Below.refl _ W).alloc (Nat.le_refl _) _
  have HN : Hid ((W.alloc (.cells #[.int .i64 x.id.1, .int .i64 x.src.1, .int .i64 x.dst.1, .int .i64 x.cap.1, .int .i64 x.size.1] 54)).heap[W.heap.size]? = some (.cells #[.int .i64 x.id.1, .int .i64 x.src.1, .int .i64 x.dst.1, .int .i64 x.cap.1, .int .i64 x.size.1] 54 (0, 0))) := heap_alloc_new _ _
  have hV := h.stay B0
  have HC := Lib.hid (has_calls _ V hV hs x.src.1)
  rw [← hm.out] at HC
  have hk := hB.keep B0
  have HI := Lib.hid (And.intro hk (And.intro hV B0))
  obtain ⟨c0, c1, c2⟩ := hk
  clear B0 hB h hV
  have HF : Hid (R = (!m || !n)) := by rw [Hid, HR.out, hm.out, hn.out]; rfl
  cases m with
  | false =>
    go_enter Try.func168, Try.ntmps168
    go_wp2_with fail
    refine (HC.out).mono ?_
    rintro e w2 ⟨rfl, hb2⟩
    have HB2 := Lib.hid (HI.out.2.2.trans (hb2.mono HI.out.2.2.size))
    clear hb2
    go_wp2_with fail
    go_ret
    exact ⟨ret_bool (by rw [HF.out]; rfl), HB2.out⟩
  | true =>
    go_enter Try.func168, Try.ntmps168
    go_wp2_with fail
    refine (HC.out).mono ?_
    rintro e w2 ⟨rfl, hb2⟩
    have HB2 := Lib.hid (HI.out.2.2.trans (hb2.mono HI.out.2.2.size))
    have HD := Lib.hid (has_calls w2 V (HI.out.2.1.stay hb2) hs x.dst.1)
    rw [← hn.out] at HD
    have e2 := (hb2.block W.heap.size (by simp)).trans HN.out
    have k2 := cells_of e2 2 rfl
    obtain ⟨c0, c1, c2⟩ := HI.out.1.keep hb2
    clear hb2 e2
    go_wp2_with fail
    refine (HD.out).mono ?_
    rintro e w3 ⟨rfl, hb3⟩
    have HB3 := Lib.hid (HB2.out.trans (hb3.mono HB2.out.size))
    clear hb3
    go_wp2_with fail
    go_ret
    exact ⟨ret_bool (by rw [HF.out]; rfl), HB3.out⟩

def channelsBad (V : CfgV) : Bool := decide (8 < V.cs.length) || (decide (chErr V.cs ≠ 0) || V.cs.any (chBad V))
set_option maxRecDepth 100000 in
set_option maxHeartbeats 1000000 in
theorem channels_calls (w : World) (V : CfgV) (h : V.At w) (hs : SmallV V) : Calls Try.prog 132 #[.agg #[.slice V.wa V.ws.length V.wc, .slice V.pa V.ps.length V.pc, .slice V.ca V.cs.length V.cc]] w fun e w' => e = .returned (.bool (channelsBad V)) ∧ Below w.heap.size w w' := by
  obtain ⟨R, HR⟩ : ∃ R, Hid (R = channelsBad V) := ⟨_, rfl⟩
  obtain ⟨m, hm⟩ : ∃ m, Hid (m = chErr V.cs) := ⟨_, rfl⟩
  obtain ⟨n, hn⟩ : ∃ m, Hid (m = V.cs.any (chBad V)) := ⟨_, rfl⟩
  rw [← HR.out]
  have B0 : Below w.heap.size w (w.alloc (.cells #[.slice V.wa V.ws.length V.wc, .slice V.pa V.ps.length V.pc, .slice V.ca V.cs.length V.cc] 26)) := (Below.refl _ w).alloc (Nat.le_refl _) _
  have hI := inBox_new w V 26
  have hV := h.stay B0
  have HC := Lib.hid (chall_calls _ V.ca V.cs V.cc hV.chs)
  rw [← hm.out] at HC
  have HI := Lib.hid (And.intro hI (And.intro hV B0))
  have hlen := hV.chs.len_le
  obtain ⟨c0, c1, c2⟩ := hI
  clear h hV B0
  have HF : Hid (R = (decide (8 < V.cs.length) || (decide (m ≠ 0) || n))) := by rw [Hid, HR.out, hm.out, hn.out]; rfl
  by_cases h8 : 8 < V.cs.length
  · go_enter Try.func132, Try.ntmps132
    go_wp2_with fail
    go_ret
    exact ⟨ret_bool (by rw [HF.out, decide_eq_true h8]; rfl), HI.out.2.2⟩
  have H8 := Lib.hid h8
  by_cases h0 : m = 0
  · have H0 := Lib.hid h0
    subst h0
    go_enter Try.func132, Try.ntmps132
    go_wp2_with fail
    refine (HC.out).mono ?_
    rintro e w2 ⟨rfl, hb2⟩
    have hI2 := HI.out.1.keep hb2
    have hV2 := HI.out.2.1.stay hb2
    have HD := Lib.hid (chs_contains (p := chBad V) 168 #[.pointer (some ⟨w.heap.size, 0, none⟩)] (enters_of Try.func168 (by kernel_rfl) rfl) w2 V.ca V.cs V.cc hV2.chs
      (fun W i hi hb => (chbad_calls W V (hV2.stay hb) hs w.heap.size (hI2.keep hb) V.cs[i]).mono fun e w' ⟨he, hb'⟩ => ⟨he, hb.trans (hb'.mono hb.size)⟩))
    rw [← hn.out] at HD
    have HB2 := Lib.hid (HI.out.2.2.trans (hb2.mono HI.out.2.2.size))
    obtain ⟨c0, c1, c2⟩ := hI2
    clear hb2 hV2
    go_wp2_with fail
    refine (HD.out).mono ?_
    rintro e w3 ⟨rfl, hb3⟩
    have HB3 := Lib.hid (HB2.out.trans (hb3.mono HB2.out.size))
    clear hb3
    go_wp2_with fail
    go_ret
    exact ⟨ret_bool (by rw [HF.out, show decide ((8 : Int) < (V.cs.length : Int)) = decide (8 < V.cs.length) from decide_eq_decide.2 (by omega)]; simp), HB3.out⟩
  · have H0 := Lib.hid h0
    go_enter Try.func132, Try.ntmps132
    go_wp2_with fail
    refine (HC.out).mono ?_
    rintro e w2 ⟨rfl, hb2⟩
    have HB2 := Lib.hid (HI.out.2.2.trans (hb2.mono HI.out.2.2.size))
    clear hb2
    go_wp2_with fail
    go_ret
    exact ⟨ret_bool (by rw [HF.out, decide_eq_false H8.out, decide_eq_true H0.out]; rfl), HB2.out⟩

/-- IDs rise, from above 'last' on, to 6 at most. -/
def ascP : Int → List PtV → Bool
  | _, [] => true
  | last, x :: r => decide (last < x.id.1 ∧ x.id.1 ≤ 6) && ascP x.id.1 r
def partsBad (ps : List PtV) : Bool := decide (ps.length < 1 ∨ 6 < ps.length) || !ascP 0 ps
theorem ascP_drop (ps : List PtV) (m : Int) (k : Nat) (h : k < ps.length) : ascP m (ps.drop k) = (decide (m < ps[k].id.1 ∧ ps[k].id.1 ≤ 6) && ascP ps[k].id.1 (ps.drop (k + 1))) := by
  rw [List.drop_eq_getElem_cons h]; rfl
set_option maxRecDepth 100000 in
set_option maxHeartbeats 1000000 in
theorem parts_calls (w : World) (V : CfgV) (h : V.At w) : Calls Try.prog 129 #[.agg #[.slice V.wa V.ws.length V.wc, .slice V.pa V.ps.length V.pc, .slice V.ca V.cs.length V.cc]] w fun e w' => e = .returned (.bool (partsBad V.ps)) ∧ Below w.heap.size w w' := by
  obtain ⟨R, HR⟩ : ∃ R, Hid (R = partsBad V.ps) := ⟨_, rfl⟩
  rw [← HR.out]
  obtain ⟨w0, hw0⟩ : ∃ w0, w0 = w.alloc (.cells #[.slice V.wa V.ws.length V.wc, .slice V.pa V.ps.length V.pc, .slice V.ca V.cs.length V.cc] 26) := ⟨_, rfl⟩
  have B0 : Below w.heap.size w w0 := by rw [hw0]; exact (Below.refl _ w).alloc (Nat.le_refl _) _
  have hI : InBox w0 w.heap.size V := by rw [hw0]; exact inBox_new w V _
  have hlen := h.pts.len_le
  have HV := Lib.hid (h.stay B0)
  have HI := Lib.hid (And.intro hI B0)
  obtain ⟨c0, c1, c2⟩ := hI
  clear h B0
  by_cases h1 : V.ps.length < 1
  · have HF : Hid (R = true) := by rw [Hid, HR.out, partsBad, decide_eq_true (by omega)]; rfl
    go_enter Try.func129, Try.ntmps129
    go_wp2_with fail
    rw [← hw0]
    clear hw0
    go_wp2_with fail
    go_ret
    exact ⟨ret_bool HF.out.symm, HI.out.2⟩
  by_cases h2 : 6 < V.ps.length
  · have HF : Hid (R = true) := by rw [Hid, HR.out, partsBad, decide_eq_true (by omega)]; rfl
    go_enter Try.func129, Try.ntmps129
    go_wp2_with fail
    rw [← hw0]
    clear hw0
    go_wp2_with fail
    go_ret
    exact ⟨ret_bool HF.out.symm, HI.out.2⟩
  have HR : Hid (R = !ascP 0 V.ps) := by rw [Hid, HR.out, partsBad, decide_eq_false (by omega)]; rfl
  go_enter Try.func129, Try.ntmps129
  go_wp2_with fail
  rw [← hw0]
  clear hw0
  go_wp2_with fail
  go_loopw [3, 19] (fun s i wr => ∃ (k : Nat) (m : Int), Hid (ascP 0 V.ps = ascP m (V.ps.drop k)) ∧ k ≤ V.ps.length ∧ s = .int .i64 m ∧ i = .int .i64 k ∧ Below w0.heap.size w0 wr) (fun _ i _ => V.ps.length - (intOf i).toNat)
  case atStart => exact ⟨0, 0, rfl, by omega, rfl, rfl, Below.refl _ _⟩
  case round =>
    obtain ⟨k, m, ha, hk, rfl, rfl, B⟩ := hrel
    by_cases hlt : k < V.ps.length
    · have i0 := HV.out.pts.index etP k hlt
      obtain ⟨u0, u1, u2, u3, u4⟩ := pts_cells HV.out.pts B k hlt
      have HD := Lib.hid (ascP_drop V.ps m k hlt)
      obtain ⟨x, hx⟩ : ∃ x : PtV, Hid (x = V.ps[k]) := ⟨V.ps[k], rfl⟩
      rw [← hx.out] at u0 u1 u2 u3 u4 HD
      have HB : Hid (∀ C, Below w0.heap.size w0 (wr.alloc (.cells C 43))) := fun C => B.alloc B.size _
      clear B
      by_cases hq : m < x.id.1 ∧ x.id.1 ≤ 6
      · obtain ⟨q1, q2⟩ := hq
        have HA : Hid (ascP 0 V.ps = ascP x.id.1 (V.ps.drop (k + 1))) := by rw [Hid, ha.out, HD.out, decide_eq_true ⟨q1, q2⟩]; rfl
        go_wp2_with fail
        go_roundw
        case rel => exact ⟨k + 1, x.id.1, HA.out, by omega, rfl, by go_num, HB.out _⟩
        case measure => simp [intOf]; omega
      · have HF : Hid (R = true) := by rw [Hid, HR.out, ha.out, HD.out, decide_eq_false hq]; rfl
        have HQ := Lib.hid hq
        clear hq
        go_wp2_with fail
        all_goals first
          | (go_ret; exact ⟨ret_bool HF.out.symm, HI.out.2.trans ((HB.out _).mono HI.out.2.size)⟩)
          | (exfalso; have := HQ.out; omega)
    · have hk2 : k = V.ps.length := by omega
      have HF : Hid (R = false) := by rw [Hid, HR.out, ha.out, hk2, List.drop_length]; rfl
      clear hk2
      go_wp2_with fail
      go_ret
      exact ⟨ret_bool HF.out.symm, HI.out.2.trans (B.mono HI.out.2.size)⟩
end Go.Proofs.Ytpnbaapjjchlbaa
