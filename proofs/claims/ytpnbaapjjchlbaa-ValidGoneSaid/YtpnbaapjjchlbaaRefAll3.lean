/- Chapter 12, the reference's All, part 3: walked. -/
import Derived.Test.YtpnbaapjjchlbaaRefAll4
namespace Go.Proofs.Ytpnbaapjjchlbaa
open Go Go.RowKit Go.Cit

def ra20 (V : CfgV) (B k : Nat) (x : PtV) (b g1 g2 : Bool) : Nat → Value
  | 116 => (.bool b)
  | 117 => (.bool b)
  | 118 => (bif (!b) then (.pointer (some ⟨B, 1, none⟩)) else undef)
  | 119 => (bif (!b) then (.slice V.pa V.ps.length V.pc) else undef)
  | 120 => (bif (!b) then (.int .i64 (k : Int)) else undef)
  | 121 => (bif (!b) then (.pointer (some (ad V.pa (k * 5)))) else undef)
  | 122 => (bif (!b) then (.pointer (some ⟨(ad V.pa (k * 5)).block, (ad V.pa (k * 5)).off + 1, none⟩)) else undef)
  | 123 => (bif (!b) then (.agg #[.int .i64 x.reg.base.1, .int .i64 x.reg.size.1]) else undef)
  | 124 => (bif (!b) then (.bool g1) else undef)
  | 125 => (bif (!b) then (.bool (!g1)) else undef)
  | 126 => (.bool (b || (!g1)))
  | 127 => (.bool (b || (!g1)))
  | 128 => (bif (!(b || (!g1))) then (.pointer (some ⟨B, 1, none⟩)) else undef)
  | 129 => (bif (!(b || (!g1))) then (.slice V.pa V.ps.length V.pc) else undef)
  | 130 => (bif (!(b || (!g1))) then (.int .i64 (k : Int)) else undef)
  | 131 => (bif (!(b || (!g1))) then (.pointer (some (ad V.pa (k * 5)))) else undef)
  | 132 => (bif (!(b || (!g1))) then (.pointer (some ⟨(ad V.pa (k * 5)).block, (ad V.pa (k * 5)).off + 4, none⟩)) else undef)
  | 133 => (bif (!(b || (!g1))) then (.slice x.a x.img.length x.c) else undef)
  | 134 => (bif (!(b || (!g1))) then (.int .i64 (x.img.length : Int)) else undef)
  | 135 => (bif (!(b || (!g1))) then (.pointer (some ⟨B, 1, none⟩)) else undef)
  | 136 => (bif (!(b || (!g1))) then (.slice V.pa V.ps.length V.pc) else undef)
  | 137 => (bif (!(b || (!g1))) then (.int .i64 (k : Int)) else undef)
  | 138 => (bif (!(b || (!g1))) then (.pointer (some (ad V.pa (k * 5)))) else undef)
  | 139 => (bif (!(b || (!g1))) then (.pointer (some ⟨(ad V.pa (k * 5)).block, (ad V.pa (k * 5)).off + 1, none⟩)) else undef)
  | 140 => (bif (!(b || (!g1))) then (.pointer (some ⟨(ad V.pa (k * 5)).block, (ad V.pa (k * 5)).off + 2, none⟩)) else undef)
  | 141 => (bif (!(b || (!g1))) then (.int .i64 x.reg.size.1) else undef)
  | 142 => (bif (!(b || (!g1))) then (.bool g2) else undef)
  | 143 => (.bool ((b || (!g1)) || g2))
  | 4 => (.bool ((b || (!g1)) || g2))
  | _ => undef
def ra20o (_ : CfgV) (B k : Nat) (_ : PtV) (b _ _ : Bool) : Nat → Value
  | 1 => (.pointer (some ⟨B, 0, none⟩))
  | 4 => (.bool b)
  | 7 => (.int .i64 (k : Int))
  | _ => undef
set_option maxRecDepth 100000 in
set_option maxHeartbeats 8000000 in
theorem sec3 (w w0 wc : World) (V : CfgV) (R : List Int) (HR : Hid (R = errs V)) (HV : Hid (V.At w0)) (HI : Hid (InBox w0 w.heap.size V)) (HB0 : Hid (Below w.heap.size w w0)) (hl1 : V.ws.length ≤ 9223372036854775807) (hl2 : V.ps.length ≤ 9223372036854775807) (hl3 : V.cs.length ≤ 9223372036854775807)
    (a : Option Addr) (L : List Int) (c : Nat) (HL : Hid (L = errsTo V 2)) (HLL : Hid (L.length ≤ 2)) (hO : VOwn cZ 1 3 w0.heap.size wc a L c) (hB : Below w0.heap.size w0 wc) (x0 x2 x4 x5 x6 x7 x8 x9 x10 x11 x12 x13 x14 x15 x16 x17 x18 x19 x20 x21 x22 x23 x24 x25 x26 x27 x28 x29 x30 x31 x32 x33 x34 x35 x36 x37 x38 x39 x40 x41 x42 x43 x44 x45 x46 x47 x48 x49 x50 x51 x52 x53 x54 x55 x56 x57 x58 x59 x60 x61 x62 x63 x64 x65 x66 x67 x68 x69 x70 x71 x72 x73 x74 x75 x76 x77 x78 x79 x80 x81 x82 x83 x84 x85 x86 x87 x88 x89 x90 x91 x92 x93 x94 x95 x96 x97 x98 x99 x100 x101 x102 x103 x104 x105 x106 x107 x108 x109 x110 x111 x112 x113 x114 x115 x116 x117 x118 x119 x120 x121 x122 x123 x124 x125 x126 x127 x128 x129 x130 x131 x132 x133 x134 x135 x136 x137 x138 x139 x140 x141 x142 x143 x144 x145 x146 x147 x148 x149 x150 x151 x152 x153 x154 x155 x156 x157 x158 x159 x160 x161 x162 x163 x164 x165 x166 x167 x168 x169 x170 x171 x172 x173 x174 x175 x176 x177 x178 x179 x180 x181 x182 x183 x184 x185 x186 x187 x188 x189 x190 x191 x192 x193 x194 x195 x196 x197 x198 x199 x200 x201 x202 x203 x204 x205 x206 x207 x208 x209 x210 x211 x212 x213 x214 x215 x216 x217 x218 x219 x220 x221 x222 x223 x224 x225 x226 x227 x228 x229 x230 x231 x232 x233 x234 x235 : Value) :
    Code.wp Try.prog (restC 8 (bodyC Try.f21)) (bodyPost Try.prog Try.f21 (fun e w' => ∃ a c, e = .returned (.slice a R.length c) ∧ VOwn cZ 1 3 w.heap.size w' a R c ∧ Below w.heap.size w w')) ⟨#[x0, .pointer (some ⟨w.heap.size, 0, none⟩), x2, .slice a L.length c, x4, x5, x6, x7, x8, x9, x10, x11, x12, x13, x14, x15, x16, x17, x18, x19, x20, x21, x22, x23, x24, x25, x26, x27, x28, x29, x30, x31, x32, x33, x34, x35, x36, x37, x38, x39, x40, x41, x42, x43, x44, x45, x46, x47, x48, x49, x50, x51, x52, x53, x54, x55, x56, x57, x58, x59, x60, x61, x62, x63, x64, x65, x66, x67, x68, x69, x70, x71, x72, x73, x74, x75, x76, x77, x78, x79, x80, x81, x82, x83, x84, x85, x86, x87, x88, x89, x90, x91, x92, x93, x94, x95, x96, x97, x98, x99, x100, x101, x102, x103, x104, x105, x106, x107, x108, x109, x110, x111, x112, x113, x114, x115, x116, x117, x118, x119, x120, x121, x122, x123, x124, x125, x126, x127, x128, x129, x130, x131, x132, x133, x134, x135, x136, x137, x138, x139, x140, x141, x142, x143, x144, x145, x146, x147, x148, x149, x150, x151, x152, x153, x154, x155, x156, x157, x158, x159, x160, x161, x162, x163, x164, x165, x166, x167, x168, x169, x170, x171, x172, x173, x174, x175, x176, x177, x178, x179, x180, x181, x182, x183, x184, x185, x186, x187, x188, x189, x190, x191, x192, x193, x194, x195, x196, x197, x198, x199, x200, x201, x202, x203, x204, x205, x206, x207, x208, x209, x210, x211, x212, x213, x214, x215, x216, x217, x218, x219, x220, x221, x222, x223, x224, x225, x226, x227, x228, x229, x230, x231, x232, x233, x234, x235], []⟩ wc := by
  conv in restC _ _ => whnf
  have HO := Lib.hid hO
  have HBB := Lib.hid hB
  obtain ⟨c0, c1, c2⟩ := HI.out.keep hB
  clear hO hB
  go_wp2_with fail
  go_loopw [4, 7] (fun b s wr => ∃ (k : Nat) (q : Bool), b = .bool q ∧ s = .int .i64 k ∧ k ≤ V.ps.length ∧ Hid (q = (V.ps.take k).any regBad) ∧ Below wc.heap.size wc wr) (fun _ s _ => V.ps.length - (intOf s).toNat)
  case atStart => exact ⟨0, false, rfl, rfl, Nat.zero_le _, by rw [Hid]; simp, Below.refl _ _⟩
  case round =>
    obtain ⟨k, b, rfl, rfl, hk, Hb, B⟩ := hrel
    have HBw := Lib.hid (HBB.out.trans (B.mono HBB.out.size))
    obtain ⟨c0, c1, c2⟩ := HI.out.keep HBw.out
    by_cases hlt : k < V.ps.length
    · skip
      have i0 := HV.out.pts.index etP k hlt
      have u : ∀ q : After wr, _ := fun q => pts_cells HV.out.pts (HBw.out.trans (q.bel.mono HBw.out.size)) k hlt
      have HBk := Lib.hid B
      have HS := Lib.hid (any_take regBad V.ps k hlt)
      clear B
      obtain ⟨x, hx⟩ : ∃ x : PtV, Hid (x = V.ps[k]) := ⟨V.ps[k], rfl⟩
      rw [← hx.out] at u HS
      obtain ⟨g1, hg1⟩ : ∃ g, Hid (mayR x.reg = g) := ⟨_, rfl⟩
      obtain ⟨g2, hg2⟩ : ∃ g, Hid (decide ((x.reg.size.1 : Int) < (x.img.length : Int)) = g) := ⟨_, rfl⟩
      have HC1 : Hid (∀ q : After wr, Calls Try.prog 61 #[.agg #[.int .i64 x.reg.base.1, .int .i64 x.reg.size.1]] q.to fun e w' => e = .returned (.bool g1) ∧ Below q.to.heap.size q.to w') := fun q => by
        have := refrmay_calls q.to x.reg
        rwa [hg1.out] at this
      obtain ⟨R, hR⟩ : ∃ R, Hid (R = ((b || (!g1)) || g2)) := ⟨_, rfl⟩
      have HN : Hid (R = (V.ps.take (k + 1)).any regBad) := by
        have e : regBad x = ((!g1) || g2) := by
          unfold regBad
          rw [hg1.out, ← hg2.out]
        rw [Hid, HS.out, hR.out, Hb.out, e]
        cases (V.ps.take k).any regBad <;> cases g1 <;> cases g2 <;> rfl
      go_wp2_with fail
      refine wp_region_vals (ra20 V w.heap.size k x b g1 g2) (ra20o V w.heap.size k x b g1 g2) [1, 4, 7] (by kernel_rfl) (by kernel_rfl) (by kernel_rfl) ⟨rfl, rfl, rfl, trivial⟩ ?_ ?_
      · refine opsAll_cons ?_ (opsAll_cons ?_ (opsAll_cons ?_ (opsAll_cons ?_ (opsAll_cons ?_ (opsAll_cons ?_ (opsAll_cons ?_ (opsAll_cons ?_ (opsAll_cons ?_ (opsAll_cons ?_ (opsAll_cons ?_ (opsAll_cons ?_ (opsAll_cons ?_ (opsAll_cons ?_ (opsAll_cons ?_ (opsAll_cons ?_ (opsAll_cons ?_ (opsAll_cons ?_ (opsAll_cons ?_ (opsAll_cons ?_ (opsAll_cons ?_ (opsAll_cons ?_ (opsAll_cons ?_ (opsAll_cons ?_ (opsAll_cons ?_ (opsAll_cons ?_ (opsAll_cons ?_ (opsAll_cons ?_ (opsAll_cons ?_ opsAll_nil))))))))))))))))))))))))))))
        all_goals intro a hk
        · -- slot 116
          exact .inl ⟨wanted_free rfl, q_move (.tmp 4) rfl (show a.eval (.tmp 4) = (.bool b) from hk.old 4 (by kernel_rfl) (by kernel_rfl))⟩
        · -- slot 117
          exact .inl ⟨wanted_free rfl, q_move (.tmp 116) rfl (show a.eval (.tmp 116) = (.bool b) from hk.slot 116 (by kernel_rfl))⟩
        · -- slot 118
          cases b with
          | true =>
            exact .inr ⟨unwanted_by 117 false (by kernel_rfl) (show a.eval (.tmp 117) = (.bool true) from hk.slot 117 (by kernel_rfl)), rfl⟩
          | false =>
            exact .inl ⟨wanted_by 117 false (by kernel_rfl) (show a.eval (.tmp 117) = (.bool false) from hk.slot 117 (by kernel_rfl)), q_field (.tmp 1) rfl (show a.eval (.tmp 1) = (.pointer (some ⟨w.heap.size, 0, none⟩)) from hk.old 1 (by kernel_rfl) (by kernel_rfl)) (v := (.pointer (some ⟨w.heap.size, 1, none⟩))) (fun w => by kernel_rfl) rfl⟩
        · -- slot 119
          cases b with
          | true =>
            exact .inr ⟨unwanted_by 117 false (by kernel_rfl) (show a.eval (.tmp 117) = (.bool true) from hk.slot 117 (by kernel_rfl)), rfl⟩
          | false =>
            exact .inl ⟨wanted_by 117 false (by kernel_rfl) (show a.eval (.tmp 117) = (.bool false) from hk.slot 117 (by kernel_rfl)), q_load (.tmp 118) rfl (show a.eval (.tmp 118) = (.pointer (some ⟨w.heap.size, 1, none⟩)) from hk.slot 118 (by kernel_rfl)) (v := (.slice V.pa V.ps.length V.pc)) (fun q => load_at (fun w => by kernel_rfl) (keep q.bel c1)) rfl⟩
        · -- slot 120
          cases b with
          | true =>
            exact .inr ⟨unwanted_by 117 false (by kernel_rfl) (show a.eval (.tmp 117) = (.bool true) from hk.slot 117 (by kernel_rfl)), rfl⟩
          | false =>
            exact .inl ⟨wanted_by 117 false (by kernel_rfl) (show a.eval (.tmp 117) = (.bool false) from hk.slot 117 (by kernel_rfl)), q_move (.tmp 7) rfl (show a.eval (.tmp 7) = (.int .i64 (k : Int)) from hk.old 7 (by kernel_rfl) (by kernel_rfl))⟩
        · -- slot 121
          cases b with
          | true =>
            exact .inr ⟨unwanted_by 117 false (by kernel_rfl) (show a.eval (.tmp 117) = (.bool true) from hk.slot 117 (by kernel_rfl)), rfl⟩
          | false =>
            exact .inl ⟨wanted_by 117 false (by kernel_rfl) (show a.eval (.tmp 117) = (.bool false) from hk.slot 117 (by kernel_rfl)), q_index (.tmp 119) (.tmp 120) rfl (show a.eval (.tmp 119) = (.slice V.pa V.ps.length V.pc) from hk.slot 119 (by kernel_rfl)) (show a.eval (.tmp 120) = (.int .i64 (k : Int)) from hk.slot 120 (by kernel_rfl)) (v := (.pointer (some (ad V.pa (k * 5))))) (fun w => i0 w) rfl⟩
        · -- slot 122
          cases b with
          | true =>
            exact .inr ⟨unwanted_by 117 false (by kernel_rfl) (show a.eval (.tmp 117) = (.bool true) from hk.slot 117 (by kernel_rfl)), rfl⟩
          | false =>
            exact .inl ⟨wanted_by 117 false (by kernel_rfl) (show a.eval (.tmp 117) = (.bool false) from hk.slot 117 (by kernel_rfl)), q_field (.tmp 121) rfl (show a.eval (.tmp 121) = (.pointer (some (ad V.pa (k * 5)))) from hk.slot 121 (by kernel_rfl)) (v := (.pointer (some ⟨(ad V.pa (k * 5)).block, (ad V.pa (k * 5)).off + 1, none⟩))) (fun w => by kernel_rfl) rfl⟩
        · -- slot 123
          cases b with
          | true =>
            exact .inr ⟨unwanted_by 117 false (by kernel_rfl) (show a.eval (.tmp 117) = (.bool true) from hk.slot 117 (by kernel_rfl)), rfl⟩
          | false =>
            exact .inl ⟨wanted_by 117 false (by kernel_rfl) (show a.eval (.tmp 117) = (.bool false) from hk.slot 117 (by kernel_rfl)), q_load (.tmp 122) rfl (show a.eval (.tmp 122) = (.pointer (some ⟨(ad V.pa (k * 5)).block, (ad V.pa (k * 5)).off + 1, none⟩)) from hk.slot 122 (by kernel_rfl)) (v := (.agg #[.int .i64 x.reg.base.1, .int .i64 x.reg.size.1])) (fun q => load2 (fun w => by kernel_rfl) (fun w => by kernel_rfl) (u q).2.1 (u q).2.2.1) rfl⟩
        · -- slot 124
          cases b with
          | true =>
            exact .inr ⟨unwanted_by 117 false (by kernel_rfl) (show a.eval (.tmp 117) = (.bool true) from hk.slot 117 (by kernel_rfl)), rfl⟩
          | false =>
            exact .inl ⟨wanted_by 117 false (by kernel_rfl) (show a.eval (.tmp 117) = (.bool false) from hk.slot 117 (by kernel_rfl)), q_call rfl rfl #[(.agg #[.int .i64 x.reg.base.1, .int .i64 x.reg.size.1])] (fun w => by kernel_rfl) (by simp only [List.map_toArray, List.map_cons, List.map_nil, (show a.eval (.tmp 123) = (.agg #[.int .i64 x.reg.base.1, .int .i64 x.reg.size.1]) from hk.slot 123 (by kernel_rfl))]) (v := (.bool g1)) (fun q => HC1.out q) rfl⟩
        · -- slot 125
          cases b with
          | true =>
            exact .inr ⟨unwanted_by 117 false (by kernel_rfl) (show a.eval (.tmp 117) = (.bool true) from hk.slot 117 (by kernel_rfl)), rfl⟩
          | false =>
            exact .inl ⟨wanted_by 117 false (by kernel_rfl) (show a.eval (.tmp 117) = (.bool false) from hk.slot 117 (by kernel_rfl)), q_not rfl _ (show a.eval (.tmp 124) = (.bool g1) from hk.slot 124 (by kernel_rfl)) rfl⟩
        · -- slot 126
          cases b with
          | true =>
            exact .inl ⟨wanted_free rfl, q_pick rfl true (show a.eval (.tmp 117) = (.bool true) from hk.slot 117 (by kernel_rfl)) rfl⟩
          | false =>
            exact .inl ⟨wanted_free rfl, q_pick rfl false (show a.eval (.tmp 117) = (.bool false) from hk.slot 117 (by kernel_rfl)) (show a.eval (.tmp 125) = (.bool (!g1)) from hk.slot 125 (by kernel_rfl))⟩
        · -- slot 127
          exact .inl ⟨wanted_free rfl, q_move (.tmp 126) rfl (show a.eval (.tmp 126) = (.bool (b || (!g1))) from hk.slot 126 (by kernel_rfl))⟩
        · -- slot 128
          cases b with
          | true =>
            exact .inr ⟨unwanted_by 127 false (by kernel_rfl) (show a.eval (.tmp 127) = (.bool (true || (!g1))) from hk.slot 127 (by kernel_rfl)), rfl⟩
          | false =>
            cases g1 with
            | true =>
              exact .inl ⟨wanted_by 127 false (by kernel_rfl) (show a.eval (.tmp 127) = (.bool (false || (!true))) from hk.slot 127 (by kernel_rfl)), q_field (.tmp 1) rfl (show a.eval (.tmp 1) = (.pointer (some ⟨w.heap.size, 0, none⟩)) from hk.old 1 (by kernel_rfl) (by kernel_rfl)) (v := (.pointer (some ⟨w.heap.size, 1, none⟩))) (fun w => by kernel_rfl) rfl⟩
            | false =>
              exact .inr ⟨unwanted_by 127 false (by kernel_rfl) (show a.eval (.tmp 127) = (.bool (false || (!false))) from hk.slot 127 (by kernel_rfl)), rfl⟩
        · -- slot 129
          cases b with
          | true =>
            exact .inr ⟨unwanted_by 127 false (by kernel_rfl) (show a.eval (.tmp 127) = (.bool (true || (!g1))) from hk.slot 127 (by kernel_rfl)), rfl⟩
          | false =>
            cases g1 with
            | true =>
              exact .inl ⟨wanted_by 127 false (by kernel_rfl) (show a.eval (.tmp 127) = (.bool (false || (!true))) from hk.slot 127 (by kernel_rfl)), q_load (.tmp 128) rfl (show a.eval (.tmp 128) = (.pointer (some ⟨w.heap.size, 1, none⟩)) from hk.slot 128 (by kernel_rfl)) (v := (.slice V.pa V.ps.length V.pc)) (fun q => load_at (fun w => by kernel_rfl) (keep q.bel c1)) rfl⟩
            | false =>
              exact .inr ⟨unwanted_by 127 false (by kernel_rfl) (show a.eval (.tmp 127) = (.bool (false || (!false))) from hk.slot 127 (by kernel_rfl)), rfl⟩
        · -- slot 130
          cases b with
          | true =>
            exact .inr ⟨unwanted_by 127 false (by kernel_rfl) (show a.eval (.tmp 127) = (.bool (true || (!g1))) from hk.slot 127 (by kernel_rfl)), rfl⟩
          | false =>
            cases g1 with
            | true =>
              exact .inl ⟨wanted_by 127 false (by kernel_rfl) (show a.eval (.tmp 127) = (.bool (false || (!true))) from hk.slot 127 (by kernel_rfl)), q_move (.tmp 7) rfl (show a.eval (.tmp 7) = (.int .i64 (k : Int)) from hk.old 7 (by kernel_rfl) (by kernel_rfl))⟩
            | false =>
              exact .inr ⟨unwanted_by 127 false (by kernel_rfl) (show a.eval (.tmp 127) = (.bool (false || (!false))) from hk.slot 127 (by kernel_rfl)), rfl⟩
        · -- slot 131
          cases b with
          | true =>
            exact .inr ⟨unwanted_by 127 false (by kernel_rfl) (show a.eval (.tmp 127) = (.bool (true || (!g1))) from hk.slot 127 (by kernel_rfl)), rfl⟩
          | false =>
            cases g1 with
            | true =>
              exact .inl ⟨wanted_by 127 false (by kernel_rfl) (show a.eval (.tmp 127) = (.bool (false || (!true))) from hk.slot 127 (by kernel_rfl)), q_index (.tmp 129) (.tmp 130) rfl (show a.eval (.tmp 129) = (.slice V.pa V.ps.length V.pc) from hk.slot 129 (by kernel_rfl)) (show a.eval (.tmp 130) = (.int .i64 (k : Int)) from hk.slot 130 (by kernel_rfl)) (v := (.pointer (some (ad V.pa (k * 5))))) (fun w => i0 w) rfl⟩
            | false =>
              exact .inr ⟨unwanted_by 127 false (by kernel_rfl) (show a.eval (.tmp 127) = (.bool (false || (!false))) from hk.slot 127 (by kernel_rfl)), rfl⟩
        · -- slot 132
          cases b with
          | true =>
            exact .inr ⟨unwanted_by 127 false (by kernel_rfl) (show a.eval (.tmp 127) = (.bool (true || (!g1))) from hk.slot 127 (by kernel_rfl)), rfl⟩
          | false =>
            cases g1 with
            | true =>
              exact .inl ⟨wanted_by 127 false (by kernel_rfl) (show a.eval (.tmp 127) = (.bool (false || (!true))) from hk.slot 127 (by kernel_rfl)), q_field (.tmp 131) rfl (show a.eval (.tmp 131) = (.pointer (some (ad V.pa (k * 5)))) from hk.slot 131 (by kernel_rfl)) (v := (.pointer (some ⟨(ad V.pa (k * 5)).block, (ad V.pa (k * 5)).off + 4, none⟩))) (fun w => by kernel_rfl) rfl⟩
            | false =>
              exact .inr ⟨unwanted_by 127 false (by kernel_rfl) (show a.eval (.tmp 127) = (.bool (false || (!false))) from hk.slot 127 (by kernel_rfl)), rfl⟩
        · -- slot 133
          cases b with
          | true =>
            exact .inr ⟨unwanted_by 127 false (by kernel_rfl) (show a.eval (.tmp 127) = (.bool (true || (!g1))) from hk.slot 127 (by kernel_rfl)), rfl⟩
          | false =>
            cases g1 with
            | true =>
              exact .inl ⟨wanted_by 127 false (by kernel_rfl) (show a.eval (.tmp 127) = (.bool (false || (!true))) from hk.slot 127 (by kernel_rfl)), q_load (.tmp 132) rfl (show a.eval (.tmp 132) = (.pointer (some ⟨(ad V.pa (k * 5)).block, (ad V.pa (k * 5)).off + 4, none⟩)) from hk.slot 132 (by kernel_rfl)) (v := (.slice x.a x.img.length x.c)) (fun q => load_at (fun w => by kernel_rfl) (u q).2.2.2.2) rfl⟩
            | false =>
              exact .inr ⟨unwanted_by 127 false (by kernel_rfl) (show a.eval (.tmp 127) = (.bool (false || (!false))) from hk.slot 127 (by kernel_rfl)), rfl⟩
        · -- slot 134
          cases b with
          | true =>
            exact .inr ⟨unwanted_by 127 false (by kernel_rfl) (show a.eval (.tmp 127) = (.bool (true || (!g1))) from hk.slot 127 (by kernel_rfl)), rfl⟩
          | false =>
            cases g1 with
            | true =>
              exact .inl ⟨wanted_by 127 false (by kernel_rfl) (show a.eval (.tmp 127) = (.bool (false || (!true))) from hk.slot 127 (by kernel_rfl)), q_len rfl (by kernel_rfl) (show a.eval (.tmp 133) = (.slice x.a x.img.length x.c) from hk.slot 133 (by kernel_rfl)) rfl⟩
            | false =>
              exact .inr ⟨unwanted_by 127 false (by kernel_rfl) (show a.eval (.tmp 127) = (.bool (false || (!false))) from hk.slot 127 (by kernel_rfl)), rfl⟩
        · -- slot 135
          cases b with
          | true =>
            exact .inr ⟨unwanted_by 127 false (by kernel_rfl) (show a.eval (.tmp 127) = (.bool (true || (!g1))) from hk.slot 127 (by kernel_rfl)), rfl⟩
          | false =>
            cases g1 with
            | true =>
              exact .inl ⟨wanted_by 127 false (by kernel_rfl) (show a.eval (.tmp 127) = (.bool (false || (!true))) from hk.slot 127 (by kernel_rfl)), q_field (.tmp 1) rfl (show a.eval (.tmp 1) = (.pointer (some ⟨w.heap.size, 0, none⟩)) from hk.old 1 (by kernel_rfl) (by kernel_rfl)) (v := (.pointer (some ⟨w.heap.size, 1, none⟩))) (fun w => by kernel_rfl) rfl⟩
            | false =>
              exact .inr ⟨unwanted_by 127 false (by kernel_rfl) (show a.eval (.tmp 127) = (.bool (false || (!false))) from hk.slot 127 (by kernel_rfl)), rfl⟩
        · -- slot 136
          cases b with
          | true =>
            exact .inr ⟨unwanted_by 127 false (by kernel_rfl) (show a.eval (.tmp 127) = (.bool (true || (!g1))) from hk.slot 127 (by kernel_rfl)), rfl⟩
          | false =>
            cases g1 with
            | true =>
              exact .inl ⟨wanted_by 127 false (by kernel_rfl) (show a.eval (.tmp 127) = (.bool (false || (!true))) from hk.slot 127 (by kernel_rfl)), q_load (.tmp 135) rfl (show a.eval (.tmp 135) = (.pointer (some ⟨w.heap.size, 1, none⟩)) from hk.slot 135 (by kernel_rfl)) (v := (.slice V.pa V.ps.length V.pc)) (fun q => load_at (fun w => by kernel_rfl) (keep q.bel c1)) rfl⟩
            | false =>
              exact .inr ⟨unwanted_by 127 false (by kernel_rfl) (show a.eval (.tmp 127) = (.bool (false || (!false))) from hk.slot 127 (by kernel_rfl)), rfl⟩
        · -- slot 137
          cases b with
          | true =>
            exact .inr ⟨unwanted_by 127 false (by kernel_rfl) (show a.eval (.tmp 127) = (.bool (true || (!g1))) from hk.slot 127 (by kernel_rfl)), rfl⟩
          | false =>
            cases g1 with
            | true =>
              exact .inl ⟨wanted_by 127 false (by kernel_rfl) (show a.eval (.tmp 127) = (.bool (false || (!true))) from hk.slot 127 (by kernel_rfl)), q_move (.tmp 7) rfl (show a.eval (.tmp 7) = (.int .i64 (k : Int)) from hk.old 7 (by kernel_rfl) (by kernel_rfl))⟩
            | false =>
              exact .inr ⟨unwanted_by 127 false (by kernel_rfl) (show a.eval (.tmp 127) = (.bool (false || (!false))) from hk.slot 127 (by kernel_rfl)), rfl⟩
        · -- slot 138
          cases b with
          | true =>
            exact .inr ⟨unwanted_by 127 false (by kernel_rfl) (show a.eval (.tmp 127) = (.bool (true || (!g1))) from hk.slot 127 (by kernel_rfl)), rfl⟩
          | false =>
            cases g1 with
            | true =>
              exact .inl ⟨wanted_by 127 false (by kernel_rfl) (show a.eval (.tmp 127) = (.bool (false || (!true))) from hk.slot 127 (by kernel_rfl)), q_index (.tmp 136) (.tmp 137) rfl (show a.eval (.tmp 136) = (.slice V.pa V.ps.length V.pc) from hk.slot 136 (by kernel_rfl)) (show a.eval (.tmp 137) = (.int .i64 (k : Int)) from hk.slot 137 (by kernel_rfl)) (v := (.pointer (some (ad V.pa (k * 5))))) (fun w => i0 w) rfl⟩
            | false =>
              exact .inr ⟨unwanted_by 127 false (by kernel_rfl) (show a.eval (.tmp 127) = (.bool (false || (!false))) from hk.slot 127 (by kernel_rfl)), rfl⟩
        · -- slot 139
          cases b with
          | true =>
            exact .inr ⟨unwanted_by 127 false (by kernel_rfl) (show a.eval (.tmp 127) = (.bool (true || (!g1))) from hk.slot 127 (by kernel_rfl)), rfl⟩
          | false =>
            cases g1 with
            | true =>
              exact .inl ⟨wanted_by 127 false (by kernel_rfl) (show a.eval (.tmp 127) = (.bool (false || (!true))) from hk.slot 127 (by kernel_rfl)), q_field (.tmp 138) rfl (show a.eval (.tmp 138) = (.pointer (some (ad V.pa (k * 5)))) from hk.slot 138 (by kernel_rfl)) (v := (.pointer (some ⟨(ad V.pa (k * 5)).block, (ad V.pa (k * 5)).off + 1, none⟩))) (fun w => by kernel_rfl) rfl⟩
            | false =>
              exact .inr ⟨unwanted_by 127 false (by kernel_rfl) (show a.eval (.tmp 127) = (.bool (false || (!false))) from hk.slot 127 (by kernel_rfl)), rfl⟩
        · -- slot 140
          cases b with
          | true =>
            exact .inr ⟨unwanted_by 127 false (by kernel_rfl) (show a.eval (.tmp 127) = (.bool (true || (!g1))) from hk.slot 127 (by kernel_rfl)), rfl⟩
          | false =>
            cases g1 with
            | true =>
              exact .inl ⟨wanted_by 127 false (by kernel_rfl) (show a.eval (.tmp 127) = (.bool (false || (!true))) from hk.slot 127 (by kernel_rfl)), q_field (.tmp 139) rfl (show a.eval (.tmp 139) = (.pointer (some ⟨(ad V.pa (k * 5)).block, (ad V.pa (k * 5)).off + 1, none⟩)) from hk.slot 139 (by kernel_rfl)) (v := (.pointer (some ⟨(ad V.pa (k * 5)).block, (ad V.pa (k * 5)).off + 2, none⟩))) (fun w => by kernel_rfl) rfl⟩
            | false =>
              exact .inr ⟨unwanted_by 127 false (by kernel_rfl) (show a.eval (.tmp 127) = (.bool (false || (!false))) from hk.slot 127 (by kernel_rfl)), rfl⟩
        · -- slot 141
          cases b with
          | true =>
            exact .inr ⟨unwanted_by 127 false (by kernel_rfl) (show a.eval (.tmp 127) = (.bool (true || (!g1))) from hk.slot 127 (by kernel_rfl)), rfl⟩
          | false =>
            cases g1 with
            | true =>
              exact .inl ⟨wanted_by 127 false (by kernel_rfl) (show a.eval (.tmp 127) = (.bool (false || (!true))) from hk.slot 127 (by kernel_rfl)), q_load (.tmp 140) rfl (show a.eval (.tmp 140) = (.pointer (some ⟨(ad V.pa (k * 5)).block, (ad V.pa (k * 5)).off + 2, none⟩)) from hk.slot 140 (by kernel_rfl)) (v := (.int .i64 x.reg.size.1)) (fun q => load_at (fun w => by kernel_rfl) (u q).2.2.1) rfl⟩
            | false =>
              exact .inr ⟨unwanted_by 127 false (by kernel_rfl) (show a.eval (.tmp 127) = (.bool (false || (!false))) from hk.slot 127 (by kernel_rfl)), rfl⟩
        · -- slot 142
          cases b with
          | true =>
            exact .inr ⟨unwanted_by 127 false (by kernel_rfl) (show a.eval (.tmp 127) = (.bool (true || (!g1))) from hk.slot 127 (by kernel_rfl)), rfl⟩
          | false =>
            cases g1 with
            | true =>
              exact .inl ⟨wanted_by 127 false (by kernel_rfl) (show a.eval (.tmp 127) = (.bool (false || (!true))) from hk.slot 127 (by kernel_rfl)), q_bin rfl (show a.eval (.tmp 134) = (.int .i64 (x.img.length : Int)) from hk.slot 134 (by kernel_rfl)) (show a.eval (.tmp 141) = (.int .i64 x.reg.size.1) from hk.slot 141 (by kernel_rfl)) (v := .bool (decide ((x.reg.size.1 : Int) < (x.img.length : Int)))) (fun w => by kernel_rfl) (congrArg Value.bool (hg2.out))⟩
            | false =>
              exact .inr ⟨unwanted_by 127 false (by kernel_rfl) (show a.eval (.tmp 127) = (.bool (false || (!false))) from hk.slot 127 (by kernel_rfl)), rfl⟩
        · -- slot 143
          cases b with
          | true =>
            exact .inl ⟨wanted_free rfl, q_pick rfl true (show a.eval (.tmp 127) = (.bool (true || (!g1))) from hk.slot 127 (by kernel_rfl)) rfl⟩
          | false =>
            cases g1 with
            | true =>
              exact .inl ⟨wanted_free rfl, q_pick rfl false (show a.eval (.tmp 127) = (.bool (false || (!true))) from hk.slot 127 (by kernel_rfl)) (show a.eval (.tmp 142) = (.bool g2) from hk.slot 142 (by kernel_rfl))⟩
            | false =>
              exact .inl ⟨wanted_free rfl, q_pick rfl true (show a.eval (.tmp 127) = (.bool (false || (!false))) from hk.slot 127 (by kernel_rfl)) rfl⟩
        · -- slot 4
          exact .inl ⟨wanted_free rfl, q_assign (.tmp 143) rfl (show a.eval (.tmp 143) = (.bool ((b || (!g1)) || g2)) from hk.slot 143 (by kernel_rfl))⟩
      intro a ⟨w3, hb3⟩ hsame hall
      have he := act_same hsame [116, 117, 118, 119, 120, 121, 122, 123, 124, 125, 126, 127, 128, 129, 130, 131, 132, 133, 134, 135, 136, 137, 138, 139, 140, 141, 142, 143, 4] (by kernel_rfl)
      simp only [List.foldl_cons, List.foldl_nil] at he
      rw [show a.eval (.tmp 4) = (.bool R) from (hall 4 (by kernel_rfl)).trans (congrArg Value.bool hR.out.symm)] at he
      generalize a.eval (.tmp 116) = x116 at he
      generalize a.eval (.tmp 117) = x117 at he
      generalize a.eval (.tmp 118) = x118 at he
      generalize a.eval (.tmp 119) = x119 at he
      generalize a.eval (.tmp 120) = x120 at he
      generalize a.eval (.tmp 121) = x121 at he
      generalize a.eval (.tmp 122) = x122 at he
      generalize a.eval (.tmp 123) = x123 at he
      generalize a.eval (.tmp 124) = x124 at he
      generalize a.eval (.tmp 125) = x125 at he
      generalize a.eval (.tmp 126) = x126 at he
      generalize a.eval (.tmp 127) = x127 at he
      generalize a.eval (.tmp 128) = x128 at he
      generalize a.eval (.tmp 129) = x129 at he
      generalize a.eval (.tmp 130) = x130 at he
      generalize a.eval (.tmp 131) = x131 at he
      generalize a.eval (.tmp 132) = x132 at he
      generalize a.eval (.tmp 133) = x133 at he
      generalize a.eval (.tmp 134) = x134 at he
      generalize a.eval (.tmp 135) = x135 at he
      generalize a.eval (.tmp 136) = x136 at he
      generalize a.eval (.tmp 137) = x137 at he
      generalize a.eval (.tmp 138) = x138 at he
      generalize a.eval (.tmp 139) = x139 at he
      generalize a.eval (.tmp 140) = x140 at he
      generalize a.eval (.tmp 141) = x141 at he
      generalize a.eval (.tmp 142) = x142 at he
      generalize a.eval (.tmp 143) = x143 at he
      simp only [put_lit] at he
      dsimp only [List.set_cons_zero, List.set_cons_succ] at he
      subst he
      clear hsame hall
      go_wp2_with fail
      go_roundw
      case rel => exact ⟨k + 1, R, rfl, by go_num, by omega, HN.out, HBk.out.trans (hb3.mono HBk.out.size)⟩
      case measure => simp [intOf]; omega
    · have hk2 : k = V.ps.length := by omega
      have Hb : Hid (b = regionsBad V.ps) := by rw [Hid, Hb.out, hk2, List.take_length]; rfl
      have HO := Lib.hid (HO.out.stay B)
      have HBB := Lib.hid HBw.out
      clear hk2
      go_upto_if 144 with fail
      go_cut [3] (fun s3 wx => ∃ (a : Option Addr) (L : List Int) (c : Nat), s3 = .slice a L.length c ∧ Hid (L = errsTo V 3) ∧ Hid (L.length ≤ 3) ∧ VOwn cZ 1 3 w0.heap.size wx a L c ∧ Below w0.heap.size w0 wx)
      case first =>
        have HT := Lib.hid (errsTo_succ V 2 (show 2 < 5 by decide))
        cases b with
        | true =>
          have HL2 : Hid (L ++ [(80 : Int)] = errsTo V 3) := by rw [Hid, HT.out, ← HL.out]; simp [bads, ← Hb.out]
          go_wp2_with ((with_reducible refine wpList_vapp1 (o := ⟨some 147, .call _, _, _, _, _⟩) etI cZ_len cZ_one (y := 80) (.tmp 145) (.tmp 146) (by with_unfolding_all rfl) (by with_unfolding_all rfl) HO.out (by with_unfolding_all rfl) (by have := HLL.out; omega) HBB.out.size (by with_unfolding_all rfl) (by with_unfolding_all rfl) ?_); intro a4 c4 w4 hO4 hg4 hn4; have HO4 := Lib.hid hO4; have HB4 := Lib.hid (HBB.out.trans (HO.out.grown hg4 HBB.out.size)); clear hO4 hg4 hn4)
          go_meet
          exact ⟨a4, L ++ [80], c4, by simp, HL2.out, by have := HLL.out; rw [Hid, List.length_append, List.length_singleton]; omega, HO4.out, HB4.out⟩
        | false =>
          have HL2 : Hid (L = errsTo V 3) := by rw [Hid, HT.out, ← HL.out]; simp [bads, ← Hb.out]
          go_wp2_with fail
          go_meet
          exact ⟨a, L, c, rfl, HL2.out, by have := HLL.out; rw [Hid]; omega, HO.out, HBB.out⟩
      case rest =>
        obtain ⟨a, L, c, rfl, HL, HLL, hO, hB⟩ := hcut
        clear Hb
        go_step
        exact sec4 w w0 wc V R HR HV HI HB0 hl1 hl2 hl3 a L c HL HLL hO hB _ _ _ _ _ _ _ _ _ _ _ _ _ _ _ _ _ _ _ _ _ _ _ _ _ _ _ _ _ _ _ _ _ _ _ _ _ _ _ _ _ _ _ _ _ _ _ _ _ _ _ _ _ _ _ _ _ _ _ _ _ _ _ _ _ _ _ _ _ _ _ _ _ _ _ _ _ _ _ _ _ _ _ _ _ _ _ _ _ _ _ _ _ _ _ _ _ _ _ _ _ _ _ _ _ _ _ _ _ _ _ _ _ _ _ _ _ _ _ _ _ _ _ _ _ _ _ _ _ _ _ _ _ _ _ _ _ _ _ _ _ _ _ _ _ _ _ _ _ _ _ _ _ _ _ _ _ _ _ _ _ _ _ _ _ _ _ _ _ _ _ _ _ _ _ _ _ _ _ _ _ _ _ _ _ _ _ _ _ _ _ _ _ _ _ _ _ _ _ _ _ _ _ _ _ _ _ _ _ _ _ _ _ _ _ _ _ _ _ _ _ _ _ _ _ _ _ _ _ _ _ _ _ _
end Go.Proofs.Ytpnbaapjjchlbaa
