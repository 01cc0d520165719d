/- FrameBack: a frame is opened as its payload, by its kind alone; what is opened, sealed again, is the same sector. The walk of the law. -/
import Derived.Test.YtbglmglgaobjmaaFrameLaw
import Derived.Test.YtbglmglgaobjmaaFrameAwake
namespace Go.Proofs.Ytbglmglgaobjmaa
open Go Go.RowKit Go.Cit

set_option maxHeartbeats 4000000 in
theorem frameBack_law (w : World) (kind other : UInt8) (a0 : Option Addr) (l : List UInt8) (c0 : Nat) (a1 : Option Addr) (s : List UInt8) (c1 : Nat) (h0 : Row w a0 l c0) (h1 : Row w a1 s c1) :
    Calls Try.prog 13 #[vb kind, vb other, .slice a0 l.length c0, .slice a1 s.length c1] w fun e w' => e = .returned (.bool true) ∧ Below w.heap.size w w' := by
  go_enter Try.func13, Try.ntmps13
  go_wp2_with fail
  refine (frameAwake_calls _).mono ?_
  rintro e w1 ⟨rfl, B1⟩
  have r0 := h0.stay B1
  have r1 := h1.stay B1
  clear h0 h1
  by_cases hl : 58 < l.length
  · go_wp2_with fail
    go_ret
    exact ⟨rfl, B1⟩
  by_cases hs : 100 < s.length
  · go_wp2_with fail
    go_ret
    exact ⟨rfl, B1⟩
  have hl8 : l.length ≤ 58 := by omega
  go_wp2_with fail
  refine (fseal_calls _ kind _ _ _ r0 hl8).mono ?_
  rintro e w2 ⟨a2, X, c2, HX, rfl, hm2, hb2⟩
  have HL : Hid (X.length = 64) := by rw [Hid, HX.out, frameB_length kind l hl8]
  have HO : Hid (openedB kind X = l) := by rw [Hid, HX.out, frame_opened kind l hl8]
  have o7 : oerrB kind X = 0 := by rw [oerrB, HX.out, frame_open kind l hl8]; rfl
  have gl : ((X.length : Int) != 64) = false := by rw [HL.out]; rfl
  have wh : wholeB X = true := by rw [HX.out, frame_whole kind l hl8]
  have gk : (kindB X != kind) = false := by rw [HX.out, kind_frame kind l hl8]; simp
  have HOt : Hid (oerrB other X = if other == kind then 0 else 70) := by rw [Hid, oerrB, HX.out, frame_other kind other l hl8]
  clear HX
  have B2 := B1.trans (hb2.mono B1.size)
  have x2 := hm2.row
  have q0 := r0.stay hb2
  have q1 := r1.stay hb2
  clear r0 r1 hm2 hb2 B1
  go_wp2_with fail
  refine (fopen_calls _ kind _ _ _ x2 (by rw [HL.out]; decide)).mono ?_
  rintro e w3 ⟨a3, Y, c3, HY, rfl, hm3, hb3⟩
  have gs : (ordB Y l == 0) = true := by rw [HY.out, HO.out]; exact ordB_self l
  have B3 := B2.trans (hb3.mono B2.size)
  have x3 := x2.stay hb3
  have y3 := hm3.row
  have p0 := q0.stay hb3
  have p1 := q1.stay hb3
  clear HY HO q0 q1 hm3 hb3 B2 x2
  go_wp2_with fail
  refine (fopen_calls _ other _ _ _ x3 (by rw [HL.out]; decide)).mono ?_
  rintro e w4 ⟨a4, Z, c4, HZ, rfl, hm4, hb4⟩
  have B4 := B3.trans (hb4.mono B3.size)
  have x4 := x3.stay hb4
  have y4 := y3.stay hb4
  have s0 := p0.stay hb4
  have s1 := p1.stay hb4
  clear HZ p0 p1 hm4 hb4 B3 x3 y3
  go_wp2_with fail
  refine (fkind_calls _ _ _ _ x4 (by rw [HL.out]; decide)).mono ?_
  rintro e w5 ⟨rfl, hb5⟩
  have B5 := B4.trans (hb5.mono B4.size)
  have y5 := y4.stay hb5
  have t0 := s0.stay hb5
  have t1 := s1.stay hb5
  clear s0 s1 hb5 B4 y4 x4
  go_wp2_with fail
  refine (wsame_calls _ _ _ _ _ _ _ y5 t0).mono ?_
  rintro e w6 ⟨rfl, rfl⟩
  have ho : (oerrB other X == 0) = (other == kind) := by rw [HOt.out]; cases other == kind <;> rfl
  clear t0 y5 hl hl8
  cases hok : other == kind
  all_goals
    have HK := Lib.hid hok
    go_wp2_with fail
    refine (fopen_calls _ kind _ _ _ t1 (by omega)).mono ?_
    rintro e w7 ⟨a7, D, c7, HD, rfl, hm7, hb7⟩
    have B7 := B5.trans (hb7.mono B5.size)
    have t7 := t1.stay hb7
    clear hok ho o7 gl wh gk gs
    cases hop : openB kind s
    · have HE : Hid (D.length = 0) := by rw [Hid, HD.out, openedB, hop]; rfl
      have ge : oerrB kind s = 70 := by rw [oerrB, hop]; rfl
      clear hop HD
      have gz : ((D.length : Int) == 0) = true := by rw [HE.out]; rfl
      go_wp2_with fail
      go_ret
      exact ⟨rfl, B7⟩
    · obtain ⟨hag, hd8⟩ := again kind s hop
      have HA := Lib.hid hag
      have ge : oerrB kind s = 0 := by rw [oerrB, hop]; rfl
      have hd : D.length ≤ 58 := by rw [HD.out]; exact hd8
      clear hop hag hd8
      go_wp2_with fail
      refine (fseal_calls _ kind _ _ _ hm7.row hd).mono ?_
      rintro e w8 ⟨a8, V, c8, HV, rfl, hm8, hb8⟩
      have B8 := B7.trans (hb8.mono B7.size)
      have t8 := t7.stay hb8
      have gv : (ordB V s == 0) = true := by rw [HV.out, HD.out, HA.out]; exact ordB_self s
      clear HV HD HA hm7 hb7 hb8 t7
      go_wp2_with fail
      refine (wsame_calls _ _ _ _ _ _ _ hm8.row t8).mono ?_
      rintro e w9 ⟨rfl, rfl⟩
      go_wp2_with fail
      go_ret
      exact ⟨rfl, B8⟩
end Go.Proofs.Ytbglmglgaobjmaa
