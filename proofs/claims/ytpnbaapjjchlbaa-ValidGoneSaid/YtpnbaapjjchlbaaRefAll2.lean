/- Chapter 12, the reference's All, part 2: walked. -/
import Derived.Test.YtpnbaapjjchlbaaRefAll3
namespace Go.Proofs.Ytpnbaapjjchlbaa
open Go Go.RowKit Go.Cit

def ra9 (V : CfgV) (B : Nat) (g1 g2 : Bool) : Nat → Value
  | 49 => (.pointer (some ⟨B, 1, none⟩))
  | 50 => (.slice V.pa V.ps.length V.pc)
  | 51 => (.int .i64 (V.ps.length : Int))
  | 52 => (.bool g1)
  | 53 => (.bool g1)
  | 54 => (bif (!g1) then (.pointer (some ⟨B, 1, none⟩)) else undef)
  | 55 => (bif (!g1) then (.slice V.pa V.ps.length V.pc) else undef)
  | 56 => (bif (!g1) then (.int .i64 (V.ps.length : Int)) else undef)
  | 57 => (bif (!g1) then (.bool g2) else undef)
  | 58 => (.bool (g1 || g2))
  | 4 => (.bool (g1 || g2))
  | _ => undef
def ra9o (_ : CfgV) (B : Nat) (_ _ : Bool) : Nat → Value
  | 1 => (.pointer (some ⟨B, 0, none⟩))
  | _ => undef
def ra13 (V : CfgV) (B k : Nat) (x y : Int) (b g1 g2 g3 g4 : Bool) : Nat → Value
  | 66 => (.bool b)
  | 67 => (.bool b)
  | 68 => (bif (!b) then (.pointer (some ⟨B, 1, none⟩)) else undef)
  | 69 => (bif (!b) then (.slice V.pa V.ps.length V.pc) else undef)
  | 70 => (bif (!b) then (.int .i64 (k : Int)) else undef)
  | 71 => (bif (!b) then (.pointer (some (ad V.pa (k * 5)))) else undef)
  | 72 => (bif (!b) then (.pointer (some (ad V.pa (k * 5)))) else undef)
  | 73 => (bif (!b) then (.int .i64 x) else undef)
  | 74 => (bif (!b) then (.bool g1) else undef)
  | 75 => (.bool (b || g1))
  | 76 => (.bool (b || g1))
  | 77 => (bif (!(b || g1)) then (.pointer (some ⟨B, 1, none⟩)) else undef)
  | 78 => (bif (!(b || g1)) then (.slice V.pa V.ps.length V.pc) else undef)
  | 79 => (bif (!(b || g1)) then (.int .i64 (k : Int)) else undef)
  | 80 => (bif (!(b || g1)) then (.pointer (some (ad V.pa (k * 5)))) else undef)
  | 81 => (bif (!(b || g1)) then (.pointer (some (ad V.pa (k * 5)))) else undef)
  | 82 => (bif (!(b || g1)) then (.int .i64 x) else undef)
  | 83 => (bif (!(b || g1)) then (.bool g2) else undef)
  | 84 => (.bool ((b || g1) || g2))
  | 85 => (.bool ((b || g1) || g2))
  | 86 => (bif (!((b || g1) || g2)) then (.int .i64 (k : Int)) else undef)
  | 87 => (bif (!((b || g1) || g2)) then (.bool g3) else undef)
  | 88 => (bif (!((b || g1) || g2)) then (.bool g3) else undef)
  | 89 => (bif ((!((b || g1) || g2)) && g3) then (.pointer (some ⟨B, 1, none⟩)) else undef)
  | 90 => (bif ((!((b || g1) || g2)) && g3) then (.slice V.pa V.ps.length V.pc) else undef)
  | 91 => (bif ((!((b || g1) || g2)) && g3) then (.int .i64 (k : Int)) else undef)
  | 92 => (bif ((!((b || g1) || g2)) && g3) then (.pointer (some (ad V.pa (k * 5)))) else undef)
  | 93 => (bif ((!((b || g1) || g2)) && g3) then (.pointer (some (ad V.pa (k * 5)))) else undef)
  | 94 => (bif ((!((b || g1) || g2)) && g3) then (.int .i64 x) else undef)
  | 95 => (bif ((!((b || g1) || g2)) && g3) then (.pointer (some ⟨B, 1, none⟩)) else undef)
  | 96 => (bif ((!((b || g1) || g2)) && g3) then (.slice V.pa V.ps.length V.pc) else undef)
  | 97 => (bif ((!((b || g1) || g2)) && g3) then (.int .i64 (k : Int)) else undef)
  | 98 => (bif ((!((b || g1) || g2)) && g3) then (.int .i64 ((k - 1 : Nat) : Int)) else undef)
  | 99 => (bif ((!((b || g1) || g2)) && g3) then (.pointer (some (ad V.pa ((k - 1) * 5)))) else undef)
  | 100 => (bif ((!((b || g1) || g2)) && g3) then (.pointer (some (ad V.pa ((k - 1) * 5)))) else undef)
  | 101 => (bif ((!((b || g1) || g2)) && g3) then (.int .i64 y) else undef)
  | 102 => (bif ((!((b || g1) || g2)) && g3) then (.bool g4) else undef)
  | 103 => (bif (!((b || g1) || g2)) then (.bool (g3 && g4)) else undef)
  | 104 => (.bool (((b || g1) || g2) || (g3 && g4)))
  | 4 => (.bool (((b || g1) || g2) || (g3 && g4)))
  | _ => undef
def ra13o (_ : CfgV) (B k : Nat) (_ _ : Int) (b _ _ _ _ : Bool) : Nat → Value
  | 1 => (.pointer (some ⟨B, 0, none⟩))
  | 4 => (.bool b)
  | 6 => (.int .i64 (k : Int))
  | _ => undef
set_option maxRecDepth 100000 in
set_option maxHeartbeats 8000000 in
theorem sec2 (w w0 wc : World) (V : CfgV) (R : List Int) (HR : Hid (R = errs V)) (HV : Hid (V.At w0)) (HI : Hid (InBox w0 w.heap.size V)) (HB0 : Hid (Below w.heap.size w w0)) (hl1 : V.ws.length ≤ 9223372036854775807) (hl2 : V.ps.length ≤ 9223372036854775807) (hl3 : V.cs.length ≤ 9223372036854775807)
    (a : Option Addr) (L : List Int) (c : Nat) (HL : Hid (L = errsTo V 1)) (HLL : Hid (L.length ≤ 1)) (hO : VOwn cZ 1 3 w0.heap.size wc a L c) (hB : Below w0.heap.size w0 wc) (x0 x2 x4 x5 x6 x7 x8 x9 x10 x11 x12 x13 x14 x15 x16 x17 x18 x19 x20 x21 x22 x23 x24 x25 x26 x27 x28 x29 x30 x31 x32 x33 x34 x35 x36 x37 x38 x39 x40 x41 x42 x43 x44 x45 x46 x47 x48 x49 x50 x51 x52 x53 x54 x55 x56 x57 x58 x59 x60 x61 x62 x63 x64 x65 x66 x67 x68 x69 x70 x71 x72 x73 x74 x75 x76 x77 x78 x79 x80 x81 x82 x83 x84 x85 x86 x87 x88 x89 x90 x91 x92 x93 x94 x95 x96 x97 x98 x99 x100 x101 x102 x103 x104 x105 x106 x107 x108 x109 x110 x111 x112 x113 x114 x115 x116 x117 x118 x119 x120 x121 x122 x123 x124 x125 x126 x127 x128 x129 x130 x131 x132 x133 x134 x135 x136 x137 x138 x139 x140 x141 x142 x143 x144 x145 x146 x147 x148 x149 x150 x151 x152 x153 x154 x155 x156 x157 x158 x159 x160 x161 x162 x163 x164 x165 x166 x167 x168 x169 x170 x171 x172 x173 x174 x175 x176 x177 x178 x179 x180 x181 x182 x183 x184 x185 x186 x187 x188 x189 x190 x191 x192 x193 x194 x195 x196 x197 x198 x199 x200 x201 x202 x203 x204 x205 x206 x207 x208 x209 x210 x211 x212 x213 x214 x215 x216 x217 x218 x219 x220 x221 x222 x223 x224 x225 x226 x227 x228 x229 x230 x231 x232 x233 x234 x235 : Value) :
    Code.wp Try.prog (restC 5 (bodyC Try.f21)) (bodyPost Try.prog Try.f21 (fun e w' => ∃ a c, e = .returned (.slice a R.length c) ∧ VOwn cZ 1 3 w.heap.size w' a R c ∧ Below w.heap.size w w')) ⟨#[x0, .pointer (some ⟨w.heap.size, 0, none⟩), x2, .slice a L.length c, x4, x5, x6, x7, x8, x9, x10, x11, x12, x13, x14, x15, x16, x17, x18, x19, x20, x21, x22, x23, x24, x25, x26, x27, x28, x29, x30, x31, x32, x33, x34, x35, x36, x37, x38, x39, x40, x41, x42, x43, x44, x45, x46, x47, x48, x49, x50, x51, x52, x53, x54, x55, x56, x57, x58, x59, x60, x61, x62, x63, x64, x65, x66, x67, x68, x69, x70, x71, x72, x73, x74, x75, x76, x77, x78, x79, x80, x81, x82, x83, x84, x85, x86, x87, x88, x89, x90, x91, x92, x93, x94, x95, x96, x97, x98, x99, x100, x101, x102, x103, x104, x105, x106, x107, x108, x109, x110, x111, x112, x113, x114, x115, x116, x117, x118, x119, x120, x121, x122, x123, x124, x125, x126, x127, x128, x129, x130, x131, x132, x133, x134, x135, x136, x137, x138, x139, x140, x141, x142, x143, x144, x145, x146, x147, x148, x149, x150, x151, x152, x153, x154, x155, x156, x157, x158, x159, x160, x161, x162, x163, x164, x165, x166, x167, x168, x169, x170, x171, x172, x173, x174, x175, x176, x177, x178, x179, x180, x181, x182, x183, x184, x185, x186, x187, x188, x189, x190, x191, x192, x193, x194, x195, x196, x197, x198, x199, x200, x201, x202, x203, x204, x205, x206, x207, x208, x209, x210, x211, x212, x213, x214, x215, x216, x217, x218, x219, x220, x221, x222, x223, x224, x225, x226, x227, x228, x229, x230, x231, x232, x233, x234, x235], []⟩ wc := by
  conv in restC _ _ => whnf
  have HO := Lib.hid hO
  have HBB := Lib.hid hB
  obtain ⟨c0, c1, c2⟩ := HI.out.keep hB
  clear hO hB
  obtain ⟨bl, hbl⟩ : ∃ bl, Hid (bl = decide (V.ps.length < 1 ∨ 6 < V.ps.length)) := ⟨_, rfl⟩
  obtain ⟨g1, hg1⟩ : ∃ g, Hid (((V.ps.length : Int) == 0) = g) := ⟨_, rfl⟩
  obtain ⟨g2, hg2⟩ : ∃ g, Hid (decide ((6 : Int) < (V.ps.length : Int)) = g) := ⟨_, rfl⟩
  have hR : Hid (bl = (g1 || g2)) := by
    rw [Hid, hbl.out, ← hg1.out, ← hg2.out, Bool.eq_iff_iff]
    simp only [decide_eq_true_eq, Bool.or_eq_true, beq_iff_eq]
    omega
  go_upto_region 9 with fail
  refine wp_region_vals0 (ra9 V w.heap.size g1 g2) (ra9o V w.heap.size g1 g2) [1] (by kernel_rfl) ⟨rfl, trivial⟩ ?_ ?_
  · refine opsAll_cons ?_ (opsAll_cons ?_ (opsAll_cons ?_ (opsAll_cons ?_ (opsAll_cons ?_ (opsAll_cons ?_ (opsAll_cons ?_ (opsAll_cons ?_ (opsAll_cons ?_ (opsAll_cons ?_ (opsAll_cons ?_ opsAll_nil))))))))))
    all_goals intro a hk
    · -- slot 49
      exact .inl ⟨wanted_free rfl, q_field (.tmp 1) rfl (show a.eval (.tmp 1) = (.pointer (some ⟨w.heap.size, 0, none⟩)) from hk.old 1 (by kernel_rfl) (by kernel_rfl)) (v := (.pointer (some ⟨w.heap.size, 1, none⟩))) (fun w => by kernel_rfl) rfl⟩
    · -- slot 50
      exact .inl ⟨wanted_free rfl, q_load (.tmp 49) rfl (show a.eval (.tmp 49) = (.pointer (some ⟨w.heap.size, 1, none⟩)) from hk.slot 49 (by kernel_rfl)) (v := (.slice V.pa V.ps.length V.pc)) (fun q => load_at (fun w => by kernel_rfl) (keep q.bel c1)) rfl⟩
    · -- slot 51
      exact .inl ⟨wanted_free rfl, q_len rfl (by kernel_rfl) (show a.eval (.tmp 50) = (.slice V.pa V.ps.length V.pc) from hk.slot 50 (by kernel_rfl)) rfl⟩
    · -- slot 52
      exact .inl ⟨wanted_free rfl, q_bin rfl (show a.eval (.tmp 51) = (.int .i64 (V.ps.length : Int)) from hk.slot 51 (by kernel_rfl)) rfl (v := .bool ((((V.ps.length : Int) : Int) == 0))) (fun w => by kernel_rfl) (congrArg Value.bool (hg1.out))⟩
    · -- slot 53
      exact .inl ⟨wanted_free rfl, q_move (.tmp 52) rfl (show a.eval (.tmp 52) = (.bool g1) from hk.slot 52 (by kernel_rfl))⟩
    · -- slot 54
      cases g1 with
      | true =>
        exact .inr ⟨unwanted_by 53 false (by kernel_rfl) (show a.eval (.tmp 53) = (.bool true) from hk.slot 53 (by kernel_rfl)), rfl⟩
      | false =>
        exact .inl ⟨wanted_by 53 false (by kernel_rfl) (show a.eval (.tmp 53) = (.bool false) from hk.slot 53 (by kernel_rfl)), q_field (.tmp 1) rfl (show a.eval (.tmp 1) = (.pointer (some ⟨w.heap.size, 0, none⟩)) from hk.old 1 (by kernel_rfl) (by kernel_rfl)) (v := (.pointer (some ⟨w.heap.size, 1, none⟩))) (fun w => by kernel_rfl) rfl⟩
    · -- slot 55
      cases g1 with
      | true =>
        exact .inr ⟨unwanted_by 53 false (by kernel_rfl) (show a.eval (.tmp 53) = (.bool true) from hk.slot 53 (by kernel_rfl)), rfl⟩
      | false =>
        exact .inl ⟨wanted_by 53 false (by kernel_rfl) (show a.eval (.tmp 53) = (.bool false) from hk.slot 53 (by kernel_rfl)), q_load (.tmp 54) rfl (show a.eval (.tmp 54) = (.pointer (some ⟨w.heap.size, 1, none⟩)) from hk.slot 54 (by kernel_rfl)) (v := (.slice V.pa V.ps.length V.pc)) (fun q => load_at (fun w => by kernel_rfl) (keep q.bel c1)) rfl⟩
    · -- slot 56
      cases g1 with
      | true =>
        exact .inr ⟨unwanted_by 53 false (by kernel_rfl) (show a.eval (.tmp 53) = (.bool true) from hk.slot 53 (by kernel_rfl)), rfl⟩
      | false =>
        exact .inl ⟨wanted_by 53 false (by kernel_rfl) (show a.eval (.tmp 53) = (.bool false) from hk.slot 53 (by kernel_rfl)), q_len rfl (by kernel_rfl) (show a.eval (.tmp 55) = (.slice V.pa V.ps.length V.pc) from hk.slot 55 (by kernel_rfl)) rfl⟩
    · -- slot 57
      cases g1 with
      | true =>
        exact .inr ⟨unwanted_by 53 false (by kernel_rfl) (show a.eval (.tmp 53) = (.bool true) from hk.slot 53 (by kernel_rfl)), rfl⟩
      | false =>
        exact .inl ⟨wanted_by 53 false (by kernel_rfl) (show a.eval (.tmp 53) = (.bool false) from hk.slot 53 (by kernel_rfl)), q_bin rfl (show a.eval (.tmp 56) = (.int .i64 (V.ps.length : Int)) from hk.slot 56 (by kernel_rfl)) rfl (v := .bool (decide ((6 : Int) < (V.ps.length : Int)))) (fun w => by kernel_rfl) (congrArg Value.bool (hg2.out))⟩
    · -- slot 58
      cases g1 with
      | true =>
        exact .inl ⟨wanted_free rfl, q_pick rfl true (show a.eval (.tmp 53) = (.bool true) from hk.slot 53 (by kernel_rfl)) rfl⟩
      | false =>
        exact .inl ⟨wanted_free rfl, q_pick rfl false (show a.eval (.tmp 53) = (.bool false) from hk.slot 53 (by kernel_rfl)) (show a.eval (.tmp 57) = (.bool g2) from hk.slot 57 (by kernel_rfl))⟩
    · -- slot 4
      exact .inl ⟨wanted_free rfl, q_assign (.tmp 58) rfl (show a.eval (.tmp 58) = (.bool (g1 || g2)) from hk.slot 58 (by kernel_rfl))⟩
  intro a ⟨wd, hbd⟩ hsame hall
  have he := act_same hsame [49, 50, 51, 52, 53, 54, 55, 56, 57, 58, 4] (by kernel_rfl)
  simp only [List.foldl_cons, List.foldl_nil] at he
  rw [show a.eval (.tmp 4) = (.bool bl) from (hall 4 (by kernel_rfl)).trans (congrArg Value.bool hR.out.symm)] at he
  generalize a.eval (.tmp 49) = x49 at he
  generalize a.eval (.tmp 50) = x50 at he
  generalize a.eval (.tmp 51) = x51 at he
  generalize a.eval (.tmp 52) = x52 at he
  generalize a.eval (.tmp 53) = x53 at he
  generalize a.eval (.tmp 54) = x54 at he
  generalize a.eval (.tmp 55) = x55 at he
  generalize a.eval (.tmp 56) = x56 at he
  generalize a.eval (.tmp 57) = x57 at he
  generalize a.eval (.tmp 58) = x58 at he
  simp only [put_lit] at he
  dsimp only [List.set_cons_zero, List.set_cons_succ] at he
  subst he
  clear hsame hall
  go_wp2_with fail
  have HBB := Lib.hid (HBB.out.trans (hbd.mono HBB.out.size))
  have HO := Lib.hid (HO.out.stay hbd)
  obtain ⟨c0, c1, c2⟩ := HI.out.keep HBB.out
  clear hbd
  go_loopw [4, 6] (fun b s wr => ∃ (k : Nat) (q : Bool), b = .bool q ∧ s = .int .i64 k ∧ k ≤ V.ps.length ∧ Hid (q = (bl || !okTo V.ps k)) ∧ Below wd.heap.size wd wr) (fun _ s _ => V.ps.length - (intOf s).toNat)
  case atStart => exact ⟨0, bl, rfl, rfl, Nat.zero_le _, by rw [Hid]; simp [okTo], Below.refl _ _⟩
  case round =>
    obtain ⟨k, b, rfl, rfl, hk, Hb, B⟩ := hrel
    have HBw := Lib.hid (HBB.out.trans (B.mono HBB.out.size))
    obtain ⟨c0, c1, c2⟩ := HI.out.keep HBw.out
    by_cases hlt : k < V.ps.length
    · skip
      have i0 := HV.out.pts.index etP k hlt
      have i1 := HV.out.pts.index etP (k - 1) (by omega)
      have u0 : ∀ q : After wr, _ := fun q => (pts_cells HV.out.pts (HBw.out.trans (q.bel.mono HBw.out.size)) k hlt).1
      have u1 : ∀ q : After wr, _ := fun q => (pts_cells HV.out.pts (HBw.out.trans (q.bel.mono HBw.out.size)) (k - 1) (by omega)).1
      have HBk := Lib.hid B
      have HS := Lib.hid (okTo_succ V.ps k)
      clear B
      obtain ⟨x, hx⟩ : ∃ x : Int, Hid (x = pidAt V.ps k) := ⟨_, rfl⟩
      obtain ⟨y, hy⟩ : ∃ y : Int, Hid (y = pidAt V.ps (k - 1)) := ⟨_, rfl⟩
      simp only [← pidAt_get V.ps k hlt, ← hx.out] at u0
      simp only [← pidAt_get V.ps (k - 1) (by omega), ← hy.out] at u1
      obtain ⟨g1, hg1⟩ : ∃ g, Hid (decide ((x : Int) < 1) = g) := ⟨_, rfl⟩
      obtain ⟨g2, hg2⟩ : ∃ g, Hid (decide ((6 : Int) < x) = g) := ⟨_, rfl⟩
      obtain ⟨g3, hg3⟩ : ∃ g, Hid (decide ((0 : Int) < (k : Int)) = g) := ⟨_, rfl⟩
      obtain ⟨g4, hg4⟩ : ∃ g, Hid (decide ((x : Int) ≤ y) = g) := ⟨_, rfl⟩
      obtain ⟨R, hR⟩ : ∃ R, Hid (R = (((b || g1) || g2) || (g3 && g4))) := ⟨_, rfl⟩
      have HN : Hid (R = (bl || !okTo V.ps (k + 1))) := by
        have e : okAt V.ps k = !((g1 || g2) || (g3 && g4)) := by
          rw [← hg1.out, ← hg2.out, ← hg3.out, ← hg4.out]
          unfold okAt
          rw [← hx.out, ← hy.out, Bool.eq_iff_iff]
          simp only [decide_eq_true_eq, Bool.not_eq_true', Bool.or_eq_false_iff, Bool.and_eq_false_iff, decide_eq_false_iff_not]
          omega
        rw [Hid, HS.out, hR.out, Hb.out, e]
        cases bl <;> cases okTo V.ps k <;> cases g1 <;> cases g2 <;> cases g3 <;> cases g4 <;> rfl
      go_wp2_with fail
      refine wp_region_vals (ra13 V w.heap.size k x y b g1 g2 g3 g4) (ra13o V w.heap.size k x y b g1 g2 g3 g4) [1, 4, 6] (by kernel_rfl) (by kernel_rfl) (by kernel_rfl) ⟨rfl, rfl, rfl, trivial⟩ ?_ ?_
      · refine opsAll_cons ?_ (opsAll_cons ?_ (opsAll_cons ?_ (opsAll_cons ?_ (opsAll_cons ?_ (opsAll_cons ?_ (opsAll_cons ?_ (opsAll_cons ?_ (opsAll_cons ?_ (opsAll_cons ?_ (opsAll_cons ?_ (opsAll_cons ?_ (opsAll_cons ?_ (opsAll_cons ?_ (opsAll_cons ?_ (opsAll_cons ?_ (opsAll_cons ?_ (opsAll_cons ?_ (opsAll_cons ?_ (opsAll_cons ?_ (opsAll_cons ?_ (opsAll_cons ?_ (opsAll_cons ?_ (opsAll_cons ?_ (opsAll_cons ?_ (opsAll_cons ?_ (opsAll_cons ?_ (opsAll_cons ?_ (opsAll_cons ?_ (opsAll_cons ?_ (opsAll_cons ?_ (opsAll_cons ?_ (opsAll_cons ?_ (opsAll_cons ?_ (opsAll_cons ?_ (opsAll_cons ?_ (opsAll_cons ?_ (opsAll_cons ?_ (opsAll_cons ?_ (opsAll_cons ?_ opsAll_nil)))))))))))))))))))))))))))))))))))))))
        all_goals intro a hk
        · -- slot 66
          exact .inl ⟨wanted_free rfl, q_move (.tmp 4) rfl (show a.eval (.tmp 4) = (.bool b) from hk.old 4 (by kernel_rfl) (by kernel_rfl))⟩
        · -- slot 67
          exact .inl ⟨wanted_free rfl, q_move (.tmp 66) rfl (show a.eval (.tmp 66) = (.bool b) from hk.slot 66 (by kernel_rfl))⟩
        · -- slot 68
          cases b with
          | true =>
            exact .inr ⟨unwanted_by 67 false (by kernel_rfl) (show a.eval (.tmp 67) = (.bool true) from hk.slot 67 (by kernel_rfl)), rfl⟩
          | false =>
            exact .inl ⟨wanted_by 67 false (by kernel_rfl) (show a.eval (.tmp 67) = (.bool false) from hk.slot 67 (by kernel_rfl)), q_field (.tmp 1) rfl (show a.eval (.tmp 1) = (.pointer (some ⟨w.heap.size, 0, none⟩)) from hk.old 1 (by kernel_rfl) (by kernel_rfl)) (v := (.pointer (some ⟨w.heap.size, 1, none⟩))) (fun w => by kernel_rfl) rfl⟩
        · -- slot 69
          cases b with
          | true =>
            exact .inr ⟨unwanted_by 67 false (by kernel_rfl) (show a.eval (.tmp 67) = (.bool true) from hk.slot 67 (by kernel_rfl)), rfl⟩
          | false =>
            exact .inl ⟨wanted_by 67 false (by kernel_rfl) (show a.eval (.tmp 67) = (.bool false) from hk.slot 67 (by kernel_rfl)), q_load (.tmp 68) rfl (show a.eval (.tmp 68) = (.pointer (some ⟨w.heap.size, 1, none⟩)) from hk.slot 68 (by kernel_rfl)) (v := (.slice V.pa V.ps.length V.pc)) (fun q => load_at (fun w => by kernel_rfl) (keep q.bel c1)) rfl⟩
        · -- slot 70
          cases b with
          | true =>
            exact .inr ⟨unwanted_by 67 false (by kernel_rfl) (show a.eval (.tmp 67) = (.bool true) from hk.slot 67 (by kernel_rfl)), rfl⟩
          | false =>
            exact .inl ⟨wanted_by 67 false (by kernel_rfl) (show a.eval (.tmp 67) = (.bool false) from hk.slot 67 (by kernel_rfl)), q_move (.tmp 6) rfl (show a.eval (.tmp 6) = (.int .i64 (k : Int)) from hk.old 6 (by kernel_rfl) (by kernel_rfl))⟩
        · -- slot 71
          cases b with
          | true =>
            exact .inr ⟨unwanted_by 67 false (by kernel_rfl) (show a.eval (.tmp 67) = (.bool true) from hk.slot 67 (by kernel_rfl)), rfl⟩
          | false =>
            exact .inl ⟨wanted_by 67 false (by kernel_rfl) (show a.eval (.tmp 67) = (.bool false) from hk.slot 67 (by kernel_rfl)), q_index (.tmp 69) (.tmp 70) rfl (show a.eval (.tmp 69) = (.slice V.pa V.ps.length V.pc) from hk.slot 69 (by kernel_rfl)) (show a.eval (.tmp 70) = (.int .i64 (k : Int)) from hk.slot 70 (by kernel_rfl)) (v := (.pointer (some (ad V.pa (k * 5))))) (fun w => i0 w) rfl⟩
        · -- slot 72
          cases b with
          | true =>
            exact .inr ⟨unwanted_by 67 false (by kernel_rfl) (show a.eval (.tmp 67) = (.bool true) from hk.slot 67 (by kernel_rfl)), rfl⟩
          | false =>
            exact .inl ⟨wanted_by 67 false (by kernel_rfl) (show a.eval (.tmp 67) = (.bool false) from hk.slot 67 (by kernel_rfl)), q_field (.tmp 71) rfl (show a.eval (.tmp 71) = (.pointer (some (ad V.pa (k * 5)))) from hk.slot 71 (by kernel_rfl)) (v := (.pointer (some (ad V.pa (k * 5))))) (fun w => by kernel_rfl) rfl⟩
        · -- slot 73
          cases b with
          | true =>
            exact .inr ⟨unwanted_by 67 false (by kernel_rfl) (show a.eval (.tmp 67) = (.bool true) from hk.slot 67 (by kernel_rfl)), rfl⟩
          | false =>
            exact .inl ⟨wanted_by 67 false (by kernel_rfl) (show a.eval (.tmp 67) = (.bool false) from hk.slot 67 (by kernel_rfl)), q_load (.tmp 72) rfl (show a.eval (.tmp 72) = (.pointer (some (ad V.pa (k * 5)))) from hk.slot 72 (by kernel_rfl)) (v := (.int .i64 x)) (fun q => load_at (fun w => by kernel_rfl) (u0 q)) rfl⟩
        · -- slot 74
          cases b with
          | true =>
            exact .inr ⟨unwanted_by 67 false (by kernel_rfl) (show a.eval (.tmp 67) = (.bool true) from hk.slot 67 (by kernel_rfl)), rfl⟩
          | false =>
            exact .inl ⟨wanted_by 67 false (by kernel_rfl) (show a.eval (.tmp 67) = (.bool false) from hk.slot 67 (by kernel_rfl)), q_bin rfl (show a.eval (.tmp 73) = (.int .i64 x) from hk.slot 73 (by kernel_rfl)) rfl (v := .bool (decide ((x : Int) < 1))) (fun w => by kernel_rfl) (congrArg Value.bool (hg1.out))⟩
        · -- slot 75
          cases b with
          | true =>
            exact .inl ⟨wanted_free rfl, q_pick rfl true (show a.eval (.tmp 67) = (.bool true) from hk.slot 67 (by kernel_rfl)) rfl⟩
          | false =>
            exact .inl ⟨wanted_free rfl, q_pick rfl false (show a.eval (.tmp 67) = (.bool false) from hk.slot 67 (by kernel_rfl)) (show a.eval (.tmp 74) = (.bool g1) from hk.slot 74 (by kernel_rfl))⟩
        · -- slot 76
          exact .inl ⟨wanted_free rfl, q_move (.tmp 75) rfl (show a.eval (.tmp 75) = (.bool (b || g1)) from hk.slot 75 (by kernel_rfl))⟩
        · -- slot 77
          cases b with
          | true =>
            exact .inr ⟨unwanted_by 76 false (by kernel_rfl) (show a.eval (.tmp 76) = (.bool (true || g1)) from hk.slot 76 (by kernel_rfl)), rfl⟩
          | false =>
            cases g1 with
            | true =>
              exact .inr ⟨unwanted_by 76 false (by kernel_rfl) (show a.eval (.tmp 76) = (.bool (false || true)) from hk.slot 76 (by kernel_rfl)), rfl⟩
            | false =>
              exact .inl ⟨wanted_by 76 false (by kernel_rfl) (show a.eval (.tmp 76) = (.bool (false || false)) from hk.slot 76 (by kernel_rfl)), q_field (.tmp 1) rfl (show a.eval (.tmp 1) = (.pointer (some ⟨w.heap.size, 0, none⟩)) from hk.old 1 (by kernel_rfl) (by kernel_rfl)) (v := (.pointer (some ⟨w.heap.size, 1, none⟩))) (fun w => by kernel_rfl) rfl⟩
        · -- slot 78
          cases b with
          | true =>
            exact .inr ⟨unwanted_by 76 false (by kernel_rfl) (show a.eval (.tmp 76) = (.bool (true || g1)) from hk.slot 76 (by kernel_rfl)), rfl⟩
          | false =>
            cases g1 with
            | true =>
              exact .inr ⟨unwanted_by 76 false (by kernel_rfl) (show a.eval (.tmp 76) = (.bool (false || true)) from hk.slot 76 (by kernel_rfl)), rfl⟩
            | false =>
              exact .inl ⟨wanted_by 76 false (by kernel_rfl) (show a.eval (.tmp 76) = (.bool (false || false)) from hk.slot 76 (by kernel_rfl)), q_load (.tmp 77) rfl (show a.eval (.tmp 77) = (.pointer (some ⟨w.heap.size, 1, none⟩)) from hk.slot 77 (by kernel_rfl)) (v := (.slice V.pa V.ps.length V.pc)) (fun q => load_at (fun w => by kernel_rfl) (keep q.bel c1)) rfl⟩
        · -- slot 79
          cases b with
          | true =>
            exact .inr ⟨unwanted_by 76 false (by kernel_rfl) (show a.eval (.tmp 76) = (.bool (true || g1)) from hk.slot 76 (by kernel_rfl)), rfl⟩
          | false =>
            cases g1 with
            | true =>
              exact .inr ⟨unwanted_by 76 false (by kernel_rfl) (show a.eval (.tmp 76) = (.bool (false || true)) from hk.slot 76 (by kernel_rfl)), rfl⟩
            | false =>
              exact .inl ⟨wanted_by 76 false (by kernel_rfl) (show a.eval (.tmp 76) = (.bool (false || false)) from hk.slot 76 (by kernel_rfl)), q_move (.tmp 6) rfl (show a.eval (.tmp 6) = (.int .i64 (k : Int)) from hk.old 6 (by kernel_rfl) (by kernel_rfl))⟩
        · -- slot 80
          cases b with
          | true =>
            exact .inr ⟨unwanted_by 76 false (by kernel_rfl) (show a.eval (.tmp 76) = (.bool (true || g1)) from hk.slot 76 (by kernel_rfl)), rfl⟩
          | false =>
            cases g1 with
            | true =>
              exact .inr ⟨unwanted_by 76 false (by kernel_rfl) (show a.eval (.tmp 76) = (.bool (false || true)) from hk.slot 76 (by kernel_rfl)), rfl⟩
            | false =>
              exact .inl ⟨wanted_by 76 false (by kernel_rfl) (show a.eval (.tmp 76) = (.bool (false || false)) from hk.slot 76 (by kernel_rfl)), q_index (.tmp 78) (.tmp 79) rfl (show a.eval (.tmp 78) = (.slice V.pa V.ps.length V.pc) from hk.slot 78 (by kernel_rfl)) (show a.eval (.tmp 79) = (.int .i64 (k : Int)) from hk.slot 79 (by kernel_rfl)) (v := (.pointer (some (ad V.pa (k * 5))))) (fun w => i0 w) rfl⟩
        · -- slot 81
          cases b with
          | true =>
            exact .inr ⟨unwanted_by 76 false (by kernel_rfl) (show a.eval (.tmp 76) = (.bool (true || g1)) from hk.slot 76 (by kernel_rfl)), rfl⟩
          | false =>
            cases g1 with
            | true =>
              exact .inr ⟨unwanted_by 76 false (by kernel_rfl) (show a.eval (.tmp 76) = (.bool (false || true)) from hk.slot 76 (by kernel_rfl)), rfl⟩
            | false =>
              exact .inl ⟨wanted_by 76 false (by kernel_rfl) (show a.eval (.tmp 76) = (.bool (false || false)) from hk.slot 76 (by kernel_rfl)), q_field (.tmp 80) rfl (show a.eval (.tmp 80) = (.pointer (some (ad V.pa (k * 5)))) from hk.slot 80 (by kernel_rfl)) (v := (.pointer (some (ad V.pa (k * 5))))) (fun w => by kernel_rfl) rfl⟩
        · -- slot 82
          cases b with
          | true =>
            exact .inr ⟨unwanted_by 76 false (by kernel_rfl) (show a.eval (.tmp 76) = (.bool (true || g1)) from hk.slot 76 (by kernel_rfl)), rfl⟩
          | false =>
            cases g1 with
            | true =>
              exact .inr ⟨unwanted_by 76 false (by kernel_rfl) (show a.eval (.tmp 76) = (.bool (false || true)) from hk.slot 76 (by kernel_rfl)), rfl⟩
            | false =>
              exact .inl ⟨wanted_by 76 false (by kernel_rfl) (show a.eval (.tmp 76) = (.bool (false || false)) from hk.slot 76 (by kernel_rfl)), q_load (.tmp 81) rfl (show a.eval (.tmp 81) = (.pointer (some (ad V.pa (k * 5)))) from hk.slot 81 (by kernel_rfl)) (v := (.int .i64 x)) (fun q => load_at (fun w => by kernel_rfl) (u0 q)) rfl⟩
        · -- slot 83
          cases b with
          | true =>
            exact .inr ⟨unwanted_by 76 false (by kernel_rfl) (show a.eval (.tmp 76) = (.bool (true || g1)) from hk.slot 76 (by kernel_rfl)), rfl⟩
          | false =>
            cases g1 with
            | true =>
              exact .inr ⟨unwanted_by 76 false (by kernel_rfl) (show a.eval (.tmp 76) = (.bool (false || true)) from hk.slot 76 (by kernel_rfl)), rfl⟩
            | false =>
              exact .inl ⟨wanted_by 76 false (by kernel_rfl) (show a.eval (.tmp 76) = (.bool (false || false)) from hk.slot 76 (by kernel_rfl)), q_bin rfl (show a.eval (.tmp 82) = (.int .i64 x) from hk.slot 82 (by kernel_rfl)) rfl (v := .bool (decide ((6 : Int) < x))) (fun w => by kernel_rfl) (congrArg Value.bool (hg2.out))⟩
        · -- slot 84
          cases b with
          | true =>
            exact .inl ⟨wanted_free rfl, q_pick rfl true (show a.eval (.tmp 76) = (.bool (true || g1)) from hk.slot 76 (by kernel_rfl)) rfl⟩
          | false =>
            cases g1 with
            | true =>
              exact .inl ⟨wanted_free rfl, q_pick rfl true (show a.eval (.tmp 76) = (.bool (false || true)) from hk.slot 76 (by kernel_rfl)) rfl⟩
            | false =>
              exact .inl ⟨wanted_free rfl, q_pick rfl false (show a.eval (.tmp 76) = (.bool (false || false)) from hk.slot 76 (by kernel_rfl)) (show a.eval (.tmp 83) = (.bool g2) from hk.slot 83 (by kernel_rfl))⟩
        · -- slot 85
          exact .inl ⟨wanted_free rfl, q_move (.tmp 84) rfl (show a.eval (.tmp 84) = (.bool ((b || g1) || g2)) from hk.slot 84 (by kernel_rfl))⟩
        · -- slot 86
          cases b with
          | true =>
            exact .inr ⟨unwanted_by 85 false (by kernel_rfl) (show a.eval (.tmp 85) = (.bool ((true || g1) || g2)) from hk.slot 85 (by kernel_rfl)), rfl⟩
          | false =>
            cases g1 with
            | true =>
              exact .inr ⟨unwanted_by 85 false (by kernel_rfl) (show a.eval (.tmp 85) = (.bool ((false || true) || g2)) from hk.slot 85 (by kernel_rfl)), rfl⟩
            | false =>
              cases g2 with
              | true =>
                exact .inr ⟨unwanted_by 85 false (by kernel_rfl) (show a.eval (.tmp 85) = (.bool ((false || false) || true)) from hk.slot 85 (by kernel_rfl)), rfl⟩
              | false =>
                exact .inl ⟨wanted_by 85 false (by kernel_rfl) (show a.eval (.tmp 85) = (.bool ((false || false) || false)) from hk.slot 85 (by kernel_rfl)), q_move (.tmp 6) rfl (show a.eval (.tmp 6) = (.int .i64 (k : Int)) from hk.old 6 (by kernel_rfl) (by kernel_rfl))⟩
        · -- slot 87
          cases b with
          | true =>
            exact .inr ⟨unwanted_by 85 false (by kernel_rfl) (show a.eval (.tmp 85) = (.bool ((true || g1) || g2)) from hk.slot 85 (by kernel_rfl)), rfl⟩
          | false =>
            cases g1 with
            | true =>
              exact .inr ⟨unwanted_by 85 false (by kernel_rfl) (show a.eval (.tmp 85) = (.bool ((false || true) || g2)) from hk.slot 85 (by kernel_rfl)), rfl⟩
            | false =>
              cases g2 with
              | true =>
                exact .inr ⟨unwanted_by 85 false (by kernel_rfl) (show a.eval (.tmp 85) = (.bool ((false || false) || true)) from hk.slot 85 (by kernel_rfl)), rfl⟩
              | false =>
                exact .inl ⟨wanted_by 85 false (by kernel_rfl) (show a.eval (.tmp 85) = (.bool ((false || false) || false)) from hk.slot 85 (by kernel_rfl)), q_bin rfl (show a.eval (.tmp 86) = (.int .i64 (k : Int)) from hk.slot 86 (by kernel_rfl)) rfl (v := .bool (decide ((0 : Int) < (k : Int)))) (fun w => by kernel_rfl) (congrArg Value.bool (hg3.out))⟩
        · -- slot 88
          cases b with
          | true =>
            exact .inr ⟨unwanted_by 85 false (by kernel_rfl) (show a.eval (.tmp 85) = (.bool ((true || g1) || g2)) from hk.slot 85 (by kernel_rfl)), rfl⟩
          | false =>
            cases g1 with
            | true =>
              exact .inr ⟨unwanted_by 85 false (by kernel_rfl) (show a.eval (.tmp 85) = (.bool ((false || true) || g2)) from hk.slot 85 (by kernel_rfl)), rfl⟩
            | false =>
              cases g2 with
              | true =>
                exact .inr ⟨unwanted_by 85 false (by kernel_rfl) (show a.eval (.tmp 85) = (.bool ((false || false) || true)) from hk.slot 85 (by kernel_rfl)), rfl⟩
              | false =>
                exact .inl ⟨wanted_by 85 false (by kernel_rfl) (show a.eval (.tmp 85) = (.bool ((false || false) || false)) from hk.slot 85 (by kernel_rfl)), q_move (.tmp 87) rfl (show a.eval (.tmp 87) = (.bool g3) from hk.slot 87 (by kernel_rfl))⟩
        · -- slot 89
          cases b with
          | true =>
            exact .inr ⟨unwanted_undef 88 true (by kernel_rfl) (show a.eval (.tmp 88) = undef from hk.slot 88 (by kernel_rfl)), rfl⟩
          | false =>
            cases g1 with
            | true =>
              exact .inr ⟨unwanted_undef 88 true (by kernel_rfl) (show a.eval (.tmp 88) = undef from hk.slot 88 (by kernel_rfl)), rfl⟩
            | false =>
              cases g2 with
              | true =>
                exact .inr ⟨unwanted_undef 88 true (by kernel_rfl) (show a.eval (.tmp 88) = undef from hk.slot 88 (by kernel_rfl)), rfl⟩
              | false =>
                cases g3 with
                | true =>
                  exact .inl ⟨wanted_by 88 true (by kernel_rfl) (show a.eval (.tmp 88) = (.bool true) from hk.slot 88 (by kernel_rfl)), q_field (.tmp 1) rfl (show a.eval (.tmp 1) = (.pointer (some ⟨w.heap.size, 0, none⟩)) from hk.old 1 (by kernel_rfl) (by kernel_rfl)) (v := (.pointer (some ⟨w.heap.size, 1, none⟩))) (fun w => by kernel_rfl) rfl⟩
                | false =>
                  exact .inr ⟨unwanted_by 88 true (by kernel_rfl) (show a.eval (.tmp 88) = (.bool false) from hk.slot 88 (by kernel_rfl)), rfl⟩
        · -- slot 90
          cases b with
          | true =>
            exact .inr ⟨unwanted_undef 88 true (by kernel_rfl) (show a.eval (.tmp 88) = undef from hk.slot 88 (by kernel_rfl)), rfl⟩
          | false =>
            cases g1 with
            | true =>
              exact .inr ⟨unwanted_undef 88 true (by kernel_rfl) (show a.eval (.tmp 88) = undef from hk.slot 88 (by kernel_rfl)), rfl⟩
            | false =>
              cases g2 with
              | true =>
                exact .inr ⟨unwanted_undef 88 true (by kernel_rfl) (show a.eval (.tmp 88) = undef from hk.slot 88 (by kernel_rfl)), rfl⟩
              | false =>
                cases g3 with
                | true =>
                  exact .inl ⟨wanted_by 88 true (by kernel_rfl) (show a.eval (.tmp 88) = (.bool true) from hk.slot 88 (by kernel_rfl)), q_load (.tmp 89) rfl (show a.eval (.tmp 89) = (.pointer (some ⟨w.heap.size, 1, none⟩)) from hk.slot 89 (by kernel_rfl)) (v := (.slice V.pa V.ps.length V.pc)) (fun q => load_at (fun w => by kernel_rfl) (keep q.bel c1)) rfl⟩
                | false =>
                  exact .inr ⟨unwanted_by 88 true (by kernel_rfl) (show a.eval (.tmp 88) = (.bool false) from hk.slot 88 (by kernel_rfl)), rfl⟩
        · -- slot 91
          cases b with
          | true =>
            exact .inr ⟨unwanted_undef 88 true (by kernel_rfl) (show a.eval (.tmp 88) = undef from hk.slot 88 (by kernel_rfl)), rfl⟩
          | false =>
            cases g1 with
            | true =>
              exact .inr ⟨unwanted_undef 88 true (by kernel_rfl) (show a.eval (.tmp 88) = undef from hk.slot 88 (by kernel_rfl)), rfl⟩
            | false =>
              cases g2 with
              | true =>
                exact .inr ⟨unwanted_undef 88 true (by kernel_rfl) (show a.eval (.tmp 88) = undef from hk.slot 88 (by kernel_rfl)), rfl⟩
              | false =>
                cases g3 with
                | true =>
                  exact .inl ⟨wanted_by 88 true (by kernel_rfl) (show a.eval (.tmp 88) = (.bool true) from hk.slot 88 (by kernel_rfl)), q_move (.tmp 6) rfl (show a.eval (.tmp 6) = (.int .i64 (k : Int)) from hk.old 6 (by kernel_rfl) (by kernel_rfl))⟩
                | false =>
                  exact .inr ⟨unwanted_by 88 true (by kernel_rfl) (show a.eval (.tmp 88) = (.bool false) from hk.slot 88 (by kernel_rfl)), rfl⟩
        · -- slot 92
          cases b with
          | true =>
            exact .inr ⟨unwanted_undef 88 true (by kernel_rfl) (show a.eval (.tmp 88) = undef from hk.slot 88 (by kernel_rfl)), rfl⟩
          | false =>
            cases g1 with
            | true =>
              exact .inr ⟨unwanted_undef 88 true (by kernel_rfl) (show a.eval (.tmp 88) = undef from hk.slot 88 (by kernel_rfl)), rfl⟩
            | false =>
              cases g2 with
              | true =>
                exact .inr ⟨unwanted_undef 88 true (by kernel_rfl) (show a.eval (.tmp 88) = undef from hk.slot 88 (by kernel_rfl)), rfl⟩
              | false =>
                cases g3 with
                | true =>
                  exact .inl ⟨wanted_by 88 true (by kernel_rfl) (show a.eval (.tmp 88) = (.bool true) from hk.slot 88 (by kernel_rfl)), q_index (.tmp 90) (.tmp 91) rfl (show a.eval (.tmp 90) = (.slice V.pa V.ps.length V.pc) from hk.slot 90 (by kernel_rfl)) (show a.eval (.tmp 91) = (.int .i64 (k : Int)) from hk.slot 91 (by kernel_rfl)) (v := (.pointer (some (ad V.pa (k * 5))))) (fun w => i0 w) rfl⟩
                | false =>
                  exact .inr ⟨unwanted_by 88 true (by kernel_rfl) (show a.eval (.tmp 88) = (.bool false) from hk.slot 88 (by kernel_rfl)), rfl⟩
        · -- slot 93
          cases b with
          | true =>
            exact .inr ⟨unwanted_undef 88 true (by kernel_rfl) (show a.eval (.tmp 88) = undef from hk.slot 88 (by kernel_rfl)), rfl⟩
          | false =>
            cases g1 with
            | true =>
              exact .inr ⟨unwanted_undef 88 true (by kernel_rfl) (show a.eval (.tmp 88) = undef from hk.slot 88 (by kernel_rfl)), rfl⟩
            | false =>
              cases g2 with
              | true =>
                exact .inr ⟨unwanted_undef 88 true (by kernel_rfl) (show a.eval (.tmp 88) = undef from hk.slot 88 (by kernel_rfl)), rfl⟩
              | false =>
                cases g3 with
                | true =>
                  exact .inl ⟨wanted_by 88 true (by kernel_rfl) (show a.eval (.tmp 88) = (.bool true) from hk.slot 88 (by kernel_rfl)), q_field (.tmp 92) rfl (show a.eval (.tmp 92) = (.pointer (some (ad V.pa (k * 5)))) from hk.slot 92 (by kernel_rfl)) (v := (.pointer (some (ad V.pa (k * 5))))) (fun w => by kernel_rfl) rfl⟩
                | false =>
                  exact .inr ⟨unwanted_by 88 true (by kernel_rfl) (show a.eval (.tmp 88) = (.bool false) from hk.slot 88 (by kernel_rfl)), rfl⟩
        · -- slot 94
          cases b with
          | true =>
            exact .inr ⟨unwanted_undef 88 true (by kernel_rfl) (show a.eval (.tmp 88) = undef from hk.slot 88 (by kernel_rfl)), rfl⟩
          | false =>
            cases g1 with
            | true =>
              exact .inr ⟨unwanted_undef 88 true (by kernel_rfl) (show a.eval (.tmp 88) = undef from hk.slot 88 (by kernel_rfl)), rfl⟩
            | false =>
              cases g2 with
              | true =>
                exact .inr ⟨unwanted_undef 88 true (by kernel_rfl) (show a.eval (.tmp 88) = undef from hk.slot 88 (by kernel_rfl)), rfl⟩
              | false =>
                cases g3 with
                | true =>
                  exact .inl ⟨wanted_by 88 true (by kernel_rfl) (show a.eval (.tmp 88) = (.bool true) from hk.slot 88 (by kernel_rfl)), q_load (.tmp 93) rfl (show a.eval (.tmp 93) = (.pointer (some (ad V.pa (k * 5)))) from hk.slot 93 (by kernel_rfl)) (v := (.int .i64 x)) (fun q => load_at (fun w => by kernel_rfl) (u0 q)) rfl⟩
                | false =>
                  exact .inr ⟨unwanted_by 88 true (by kernel_rfl) (show a.eval (.tmp 88) = (.bool false) from hk.slot 88 (by kernel_rfl)), rfl⟩
        · -- slot 95
          cases b with
          | true =>
            exact .inr ⟨unwanted_undef 88 true (by kernel_rfl) (show a.eval (.tmp 88) = undef from hk.slot 88 (by kernel_rfl)), rfl⟩
          | false =>
            cases g1 with
            | true =>
              exact .inr ⟨unwanted_undef 88 true (by kernel_rfl) (show a.eval (.tmp 88) = undef from hk.slot 88 (by kernel_rfl)), rfl⟩
            | false =>
              cases g2 with
              | true =>
                exact .inr ⟨unwanted_undef 88 true (by kernel_rfl) (show a.eval (.tmp 88) = undef from hk.slot 88 (by kernel_rfl)), rfl⟩
              | false =>
                cases g3 with
                | true =>
                  exact .inl ⟨wanted_by 88 true (by kernel_rfl) (show a.eval (.tmp 88) = (.bool true) from hk.slot 88 (by kernel_rfl)), q_field (.tmp 1) rfl (show a.eval (.tmp 1) = (.pointer (some ⟨w.heap.size, 0, none⟩)) from hk.old 1 (by kernel_rfl) (by kernel_rfl)) (v := (.pointer (some ⟨w.heap.size, 1, none⟩))) (fun w => by kernel_rfl) rfl⟩
                | false =>
                  exact .inr ⟨unwanted_by 88 true (by kernel_rfl) (show a.eval (.tmp 88) = (.bool false) from hk.slot 88 (by kernel_rfl)), rfl⟩
        · -- slot 96
          cases b with
          | true =>
            exact .inr ⟨unwanted_undef 88 true (by kernel_rfl) (show a.eval (.tmp 88) = undef from hk.slot 88 (by kernel_rfl)), rfl⟩
          | false =>
            cases g1 with
            | true =>
              exact .inr ⟨unwanted_undef 88 true (by kernel_rfl) (show a.eval (.tmp 88) = undef from hk.slot 88 (by kernel_rfl)), rfl⟩
            | false =>
              cases g2 with
              | true =>
                exact .inr ⟨unwanted_undef 88 true (by kernel_rfl) (show a.eval (.tmp 88) = undef from hk.slot 88 (by kernel_rfl)), rfl⟩
              | false =>
                cases g3 with
                | true =>
                  exact .inl ⟨wanted_by 88 true (by kernel_rfl) (show a.eval (.tmp 88) = (.bool true) from hk.slot 88 (by kernel_rfl)), q_load (.tmp 95) rfl (show a.eval (.tmp 95) = (.pointer (some ⟨w.heap.size, 1, none⟩)) from hk.slot 95 (by kernel_rfl)) (v := (.slice V.pa V.ps.length V.pc)) (fun q => load_at (fun w => by kernel_rfl) (keep q.bel c1)) rfl⟩
                | false =>
                  exact .inr ⟨unwanted_by 88 true (by kernel_rfl) (show a.eval (.tmp 88) = (.bool false) from hk.slot 88 (by kernel_rfl)), rfl⟩
        · -- slot 97
          cases b with
          | true =>
            exact .inr ⟨unwanted_undef 88 true (by kernel_rfl) (show a.eval (.tmp 88) = undef from hk.slot 88 (by kernel_rfl)), rfl⟩
          | false =>
            cases g1 with
            | true =>
              exact .inr ⟨unwanted_undef 88 true (by kernel_rfl) (show a.eval (.tmp 88) = undef from hk.slot 88 (by kernel_rfl)), rfl⟩
            | false =>
              cases g2 with
              | true =>
                exact .inr ⟨unwanted_undef 88 true (by kernel_rfl) (show a.eval (.tmp 88) = undef from hk.slot 88 (by kernel_rfl)), rfl⟩
              | false =>
                cases g3 with
                | true =>
                  exact .inl ⟨wanted_by 88 true (by kernel_rfl) (show a.eval (.tmp 88) = (.bool true) from hk.slot 88 (by kernel_rfl)), q_move (.tmp 6) rfl (show a.eval (.tmp 6) = (.int .i64 (k : Int)) from hk.old 6 (by kernel_rfl) (by kernel_rfl))⟩
                | false =>
                  exact .inr ⟨unwanted_by 88 true (by kernel_rfl) (show a.eval (.tmp 88) = (.bool false) from hk.slot 88 (by kernel_rfl)), rfl⟩
        · -- slot 98
          cases b with
          | true =>
            exact .inr ⟨unwanted_undef 88 true (by kernel_rfl) (show a.eval (.tmp 88) = undef from hk.slot 88 (by kernel_rfl)), rfl⟩
          | false =>
            cases g1 with
            | true =>
              exact .inr ⟨unwanted_undef 88 true (by kernel_rfl) (show a.eval (.tmp 88) = undef from hk.slot 88 (by kernel_rfl)), rfl⟩
            | false =>
              cases g2 with
              | true =>
                exact .inr ⟨unwanted_undef 88 true (by kernel_rfl) (show a.eval (.tmp 88) = undef from hk.slot 88 (by kernel_rfl)), rfl⟩
              | false =>
                cases g3 with
                | true =>
                  exact .inl ⟨wanted_by 88 true (by kernel_rfl) (show a.eval (.tmp 88) = (.bool true) from hk.slot 88 (by kernel_rfl)), q_bin rfl (show a.eval (.tmp 97) = (.int .i64 (k : Int)) from hk.slot 97 (by kernel_rfl)) rfl (v := (.int .i64 ((k - 1 : Nat) : Int))) (fun w => by have := of_decide_eq_true hg3.out; go_simp; exact (IntWalk.i64_in _ (by omega)).trans (by omega)) rfl⟩
                | false =>
                  exact .inr ⟨unwanted_by 88 true (by kernel_rfl) (show a.eval (.tmp 88) = (.bool false) from hk.slot 88 (by kernel_rfl)), rfl⟩
        · -- slot 99
          cases b with
          | true =>
            exact .inr ⟨unwanted_undef 88 true (by kernel_rfl) (show a.eval (.tmp 88) = undef from hk.slot 88 (by kernel_rfl)), rfl⟩
          | false =>
            cases g1 with
            | true =>
              exact .inr ⟨unwanted_undef 88 true (by kernel_rfl) (show a.eval (.tmp 88) = undef from hk.slot 88 (by kernel_rfl)), rfl⟩
            | false =>
              cases g2 with
              | true =>
                exact .inr ⟨unwanted_undef 88 true (by kernel_rfl) (show a.eval (.tmp 88) = undef from hk.slot 88 (by kernel_rfl)), rfl⟩
              | false =>
                cases g3 with
                | true =>
                  exact .inl ⟨wanted_by 88 true (by kernel_rfl) (show a.eval (.tmp 88) = (.bool true) from hk.slot 88 (by kernel_rfl)), q_index (.tmp 96) (.tmp 98) rfl (show a.eval (.tmp 96) = (.slice V.pa V.ps.length V.pc) from hk.slot 96 (by kernel_rfl)) (show a.eval (.tmp 98) = (.int .i64 ((k - 1 : Nat) : Int)) from hk.slot 98 (by kernel_rfl)) (v := (.pointer (some (ad V.pa ((k - 1) * 5))))) (fun w => i1 w) rfl⟩
                | false =>
                  exact .inr ⟨unwanted_by 88 true (by kernel_rfl) (show a.eval (.tmp 88) = (.bool false) from hk.slot 88 (by kernel_rfl)), rfl⟩
        · -- slot 100
          cases b with
          | true =>
            exact .inr ⟨unwanted_undef 88 true (by kernel_rfl) (show a.eval (.tmp 88) = undef from hk.slot 88 (by kernel_rfl)), rfl⟩
          | false =>
            cases g1 with
            | true =>
              exact .inr ⟨unwanted_undef 88 true (by kernel_rfl) (show a.eval (.tmp 88) = undef from hk.slot 88 (by kernel_rfl)), rfl⟩
            | false =>
              cases g2 with
              | true =>
                exact .inr ⟨unwanted_undef 88 true (by kernel_rfl) (show a.eval (.tmp 88) = undef from hk.slot 88 (by kernel_rfl)), rfl⟩
              | false =>
                cases g3 with
                | true =>
                  exact .inl ⟨wanted_by 88 true (by kernel_rfl) (show a.eval (.tmp 88) = (.bool true) from hk.slot 88 (by kernel_rfl)), q_field (.tmp 99) rfl (show a.eval (.tmp 99) = (.pointer (some (ad V.pa ((k - 1) * 5)))) from hk.slot 99 (by kernel_rfl)) (v := (.pointer (some (ad V.pa ((k - 1) * 5))))) (fun w => by kernel_rfl) rfl⟩
                | false =>
                  exact .inr ⟨unwanted_by 88 true (by kernel_rfl) (show a.eval (.tmp 88) = (.bool false) from hk.slot 88 (by kernel_rfl)), rfl⟩
        · -- slot 101
          cases b with
          | true =>
            exact .inr ⟨unwanted_undef 88 true (by kernel_rfl) (show a.eval (.tmp 88) = undef from hk.slot 88 (by kernel_rfl)), rfl⟩
          | false =>
            cases g1 with
            | true =>
              exact .inr ⟨unwanted_undef 88 true (by kernel_rfl) (show a.eval (.tmp 88) = undef from hk.slot 88 (by kernel_rfl)), rfl⟩
            | false =>
              cases g2 with
              | true =>
                exact .inr ⟨unwanted_undef 88 true (by kernel_rfl) (show a.eval (.tmp 88) = undef from hk.slot 88 (by kernel_rfl)), rfl⟩
              | false =>
                cases g3 with
                | true =>
                  exact .inl ⟨wanted_by 88 true (by kernel_rfl) (show a.eval (.tmp 88) = (.bool true) from hk.slot 88 (by kernel_rfl)), q_load (.tmp 100) rfl (show a.eval (.tmp 100) = (.pointer (some (ad V.pa ((k - 1) * 5)))) from hk.slot 100 (by kernel_rfl)) (v := (.int .i64 y)) (fun q => load_at (fun w => by kernel_rfl) (u1 q)) rfl⟩
                | false =>
                  exact .inr ⟨unwanted_by 88 true (by kernel_rfl) (show a.eval (.tmp 88) = (.bool false) from hk.slot 88 (by kernel_rfl)), rfl⟩
        · -- slot 102
          cases b with
          | true =>
            exact .inr ⟨unwanted_undef 88 true (by kernel_rfl) (show a.eval (.tmp 88) = undef from hk.slot 88 (by kernel_rfl)), rfl⟩
          | false =>
            cases g1 with
            | true =>
              exact .inr ⟨unwanted_undef 88 true (by kernel_rfl) (show a.eval (.tmp 88) = undef from hk.slot 88 (by kernel_rfl)), rfl⟩
            | false =>
              cases g2 with
              | true =>
                exact .inr ⟨unwanted_undef 88 true (by kernel_rfl) (show a.eval (.tmp 88) = undef from hk.slot 88 (by kernel_rfl)), rfl⟩
              | false =>
                cases g3 with
                | true =>
                  exact .inl ⟨wanted_by 88 true (by kernel_rfl) (show a.eval (.tmp 88) = (.bool true) from hk.slot 88 (by kernel_rfl)), q_bin rfl (show a.eval (.tmp 94) = (.int .i64 x) from hk.slot 94 (by kernel_rfl)) (show a.eval (.tmp 101) = (.int .i64 y) from hk.slot 101 (by kernel_rfl)) (v := .bool (decide ((x : Int) ≤ y))) (fun w => by kernel_rfl) (congrArg Value.bool (hg4.out))⟩
                | false =>
                  exact .inr ⟨unwanted_by 88 true (by kernel_rfl) (show a.eval (.tmp 88) = (.bool false) from hk.slot 88 (by kernel_rfl)), rfl⟩
        · -- slot 103
          cases b with
          | true =>
            exact .inr ⟨unwanted_by 85 false (by kernel_rfl) (show a.eval (.tmp 85) = (.bool ((true || g1) || g2)) from hk.slot 85 (by kernel_rfl)), rfl⟩
          | false =>
            cases g1 with
            | true =>
              exact .inr ⟨unwanted_by 85 false (by kernel_rfl) (show a.eval (.tmp 85) = (.bool ((false || true) || g2)) from hk.slot 85 (by kernel_rfl)), rfl⟩
            | false =>
              cases g2 with
              | true =>
                exact .inr ⟨unwanted_by 85 false (by kernel_rfl) (show a.eval (.tmp 85) = (.bool ((false || false) || true)) from hk.slot 85 (by kernel_rfl)), rfl⟩
              | false =>
                cases g3 with
                | true =>
                  exact .inl ⟨wanted_by 85 false (by kernel_rfl) (show a.eval (.tmp 85) = (.bool ((false || false) || false)) from hk.slot 85 (by kernel_rfl)), q_pick rfl true (show a.eval (.tmp 88) = (.bool true) from hk.slot 88 (by kernel_rfl)) (show a.eval (.tmp 102) = (.bool g4) from hk.slot 102 (by kernel_rfl))⟩
                | false =>
                  exact .inl ⟨wanted_by 85 false (by kernel_rfl) (show a.eval (.tmp 85) = (.bool ((false || false) || false)) from hk.slot 85 (by kernel_rfl)), q_pick rfl false (show a.eval (.tmp 88) = (.bool false) from hk.slot 88 (by kernel_rfl)) rfl⟩
        · -- slot 104
          cases b with
          | true =>
            exact .inl ⟨wanted_free rfl, q_pick rfl true (show a.eval (.tmp 85) = (.bool ((true || g1) || g2)) from hk.slot 85 (by kernel_rfl)) rfl⟩
          | false =>
            cases g1 with
            | true =>
              exact .inl ⟨wanted_free rfl, q_pick rfl true (show a.eval (.tmp 85) = (.bool ((false || true) || g2)) from hk.slot 85 (by kernel_rfl)) rfl⟩
            | false =>
              cases g2 with
              | true =>
                exact .inl ⟨wanted_free rfl, q_pick rfl true (show a.eval (.tmp 85) = (.bool ((false || false) || true)) from hk.slot 85 (by kernel_rfl)) rfl⟩
              | false =>
                exact .inl ⟨wanted_free rfl, q_pick rfl false (show a.eval (.tmp 85) = (.bool ((false || false) || false)) from hk.slot 85 (by kernel_rfl)) (show a.eval (.tmp 103) = (.bool (g3 && g4)) from hk.slot 103 (by kernel_rfl))⟩
        · -- slot 4
          exact .inl ⟨wanted_free rfl, q_assign (.tmp 104) rfl (show a.eval (.tmp 104) = (.bool (((b || g1) || g2) || (g3 && g4))) from hk.slot 104 (by kernel_rfl))⟩
      intro a ⟨w3, hb3⟩ hsame hall
      have he := act_same hsame [66, 67, 68, 69, 70, 71, 72, 73, 74, 75, 76, 77, 78, 79, 80, 81, 82, 83, 84, 85, 86, 87, 88, 89, 90, 91, 92, 93, 94, 95, 96, 97, 98, 99, 100, 101, 102, 103, 104, 4] (by kernel_rfl)
      simp only [List.foldl_cons, List.foldl_nil] at he
      rw [show a.eval (.tmp 4) = (.bool R) from (hall 4 (by kernel_rfl)).trans (congrArg Value.bool hR.out.symm)] at he
      generalize a.eval (.tmp 66) = x66 at he
      generalize a.eval (.tmp 67) = x67 at he
      generalize a.eval (.tmp 68) = x68 at he
      generalize a.eval (.tmp 69) = x69 at he
      generalize a.eval (.tmp 70) = x70 at he
      generalize a.eval (.tmp 71) = x71 at he
      generalize a.eval (.tmp 72) = x72 at he
      generalize a.eval (.tmp 73) = x73 at he
      generalize a.eval (.tmp 74) = x74 at he
      generalize a.eval (.tmp 75) = x75 at he
      generalize a.eval (.tmp 76) = x76 at he
      generalize a.eval (.tmp 77) = x77 at he
      generalize a.eval (.tmp 78) = x78 at he
      generalize a.eval (.tmp 79) = x79 at he
      generalize a.eval (.tmp 80) = x80 at he
      generalize a.eval (.tmp 81) = x81 at he
      generalize a.eval (.tmp 82) = x82 at he
      generalize a.eval (.tmp 83) = x83 at he
      generalize a.eval (.tmp 84) = x84 at he
      generalize a.eval (.tmp 85) = x85 at he
      generalize a.eval (.tmp 86) = x86 at he
      generalize a.eval (.tmp 87) = x87 at he
      generalize a.eval (.tmp 88) = x88 at he
      generalize a.eval (.tmp 89) = x89 at he
      generalize a.eval (.tmp 90) = x90 at he
      generalize a.eval (.tmp 91) = x91 at he
      generalize a.eval (.tmp 92) = x92 at he
      generalize a.eval (.tmp 93) = x93 at he
      generalize a.eval (.tmp 94) = x94 at he
      generalize a.eval (.tmp 95) = x95 at he
      generalize a.eval (.tmp 96) = x96 at he
      generalize a.eval (.tmp 97) = x97 at he
      generalize a.eval (.tmp 98) = x98 at he
      generalize a.eval (.tmp 99) = x99 at he
      generalize a.eval (.tmp 100) = x100 at he
      generalize a.eval (.tmp 101) = x101 at he
      generalize a.eval (.tmp 102) = x102 at he
      generalize a.eval (.tmp 103) = x103 at he
      generalize a.eval (.tmp 104) = x104 at he
      simp only [put_lit] at he
      dsimp only [List.set_cons_zero, List.set_cons_succ] at he
      subst he
      clear hsame hall
      go_wp2_with fail
      go_roundw
      case rel => exact ⟨k + 1, R, rfl, by go_num, by omega, HN.out, HBk.out.trans (hb3.mono HBk.out.size)⟩
      case measure => simp [intOf]; omega
    · have hk2 : k = V.ps.length := by omega
      have Hb : Hid (b = partsBad V.ps) := by rw [Hid, Hb.out, hk2, okTo_eq, hbl.out]; rfl
      have HO := Lib.hid (HO.out.stay B)
      have HBB := Lib.hid HBw.out
      clear hk2
      go_upto_if 105 with fail
      go_cut [3] (fun s3 wx => ∃ (a : Option Addr) (L : List Int) (c : Nat), s3 = .slice a L.length c ∧ Hid (L = errsTo V 2) ∧ Hid (L.length ≤ 2) ∧ VOwn cZ 1 3 w0.heap.size wx a L c ∧ Below w0.heap.size w0 wx)
      case first =>
        have HT := Lib.hid (errsTo_succ V 1 (show 1 < 5 by decide))
        cases b with
        | true =>
          have HL2 : Hid (L ++ [(120 : Int)] = errsTo V 2) := by rw [Hid, HT.out, ← HL.out]; simp [bads, ← Hb.out]
          go_wp2_with ((with_reducible refine wpList_vapp1 (o := ⟨some 108, .call _, _, _, _, _⟩) etI cZ_len cZ_one (y := 120) (.tmp 106) (.tmp 107) (by with_unfolding_all rfl) (by with_unfolding_all rfl) HO.out (by with_unfolding_all rfl) (by have := HLL.out; omega) HBB.out.size (by with_unfolding_all rfl) (by with_unfolding_all rfl) ?_); intro a4 c4 w4 hO4 hg4 hn4; have HO4 := Lib.hid hO4; have HB4 := Lib.hid (HBB.out.trans (HO.out.grown hg4 HBB.out.size)); clear hO4 hg4 hn4)
          go_meet
          exact ⟨a4, L ++ [120], c4, by simp, HL2.out, by have := HLL.out; rw [Hid, List.length_append, List.length_singleton]; omega, HO4.out, HB4.out⟩
        | false =>
          have HL2 : Hid (L = errsTo V 2) := by rw [Hid, HT.out, ← HL.out]; simp [bads, ← Hb.out]
          go_wp2_with fail
          go_meet
          exact ⟨a, L, c, rfl, HL2.out, by have := HLL.out; rw [Hid]; omega, HO.out, HBB.out⟩
      case rest =>
        obtain ⟨a, L, c, rfl, HL, HLL, hO, hB⟩ := hcut
        clear Hb
        go_step
        exact sec3 w w0 wc V R HR HV HI HB0 hl1 hl2 hl3 a L c HL HLL hO hB _ _ _ _ _ _ _ _ _ _ _ _ _ _ _ _ _ _ _ _ _ _ _ _ _ _ _ _ _ _ _ _ _ _ _ _ _ _ _ _ _ _ _ _ _ _ _ _ _ _ _ _ _ _ _ _ _ _ _ _ _ _ _ _ _ _ _ _ _ _ _ _ _ _ _ _ _ _ _ _ _ _ _ _ _ _ _ _ _ _ _ _ _ _ _ _ _ _ _ _ _ _ _ _ _ _ _ _ _ _ _ _ _ _ _ _ _ _ _ _ _ _ _ _ _ _ _ _ _ _ _ _ _ _ _ _ _ _ _ _ _ _ _ _ _ _ _ _ _ _ _ _ _ _ _ _ _ _ _ _ _ _ _ _ _ _ _ _ _ _ _ _ _ _ _ _ _ _ _ _ _ _ _ _ _ _ _ _ _ _ _ _ _ _ _ _ _ _ _ _ _ _ _ _ _ _ _ _ _ _ _ _ _ _ _ _ _ _ _ _ _ _ _ _ _ _ _ _ _ _ _ _ _ _
end Go.Proofs.Ytpnbaapjjchlbaa
