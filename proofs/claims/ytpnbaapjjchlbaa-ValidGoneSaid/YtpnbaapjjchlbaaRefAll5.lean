/- Chapter 12, the reference's All, part 5: walked. -/
import Derived.Test.YtpnbaapjjchlbaaRefAll6
namespace Go.Proofs.Ytpnbaapjjchlbaa
open Go Go.RowKit Go.Cit

def ra34 (V : CfgV) (B : Nat) (z : Int) (g1 g2 : Bool) : Nat → Value
  | 191 => (.pointer (some ⟨B, 2, none⟩))
  | 192 => (.slice V.ca V.cs.length V.cc)
  | 193 => (.int .i64 (V.cs.length : Int))
  | 194 => (.bool g1)
  | 195 => (.bool g1)
  | 196 => (bif (!g1) then (.pointer (some ⟨B, 2, none⟩)) else undef)
  | 197 => (bif (!g1) then (.slice V.ca V.cs.length V.cc) else undef)
  | 198 => (bif (!g1) then (.int .i64 z) else undef)
  | 199 => (bif (!g1) then (.bool g2) else undef)
  | 200 => (.bool (g1 || g2))
  | 4 => (.bool (g1 || g2))
  | _ => undef
def ra34o (_ : CfgV) (B : Nat) (_ : Int) (_ _ : Bool) : Nat → Value
  | 1 => (.pointer (some ⟨B, 0, none⟩))
  | _ => undef
def ra38 (V : CfgV) (B k : Nat) (x : Ch) (b h1 h2 : Bool) : Nat → Value
  | 208 => (.bool b)
  | 209 => (.bool b)
  | 210 => (bif (!b) then (.agg #[.slice V.wa V.ws.length V.wc, .slice V.pa V.ps.length V.pc, .slice V.ca V.cs.length V.cc]) else undef)
  | 211 => (bif (!b) then (.pointer (some ⟨B, 2, none⟩)) else undef)
  | 212 => (bif (!b) then (.slice V.ca V.cs.length V.cc) else undef)
  | 213 => (bif (!b) then (.int .i64 (k : Int)) else undef)
  | 214 => (bif (!b) then (.pointer (some (ad V.ca (k * 5)))) else undef)
  | 215 => (bif (!b) then (.pointer (some ⟨(ad V.ca (k * 5)).block, (ad V.ca (k * 5)).off + 1, none⟩)) else undef)
  | 216 => (bif (!b) then (.int .i64 x.src.1) else undef)
  | 217 => (bif (!b) then (.bool h1) else undef)
  | 218 => (bif (!b) then (.bool (!h1)) else undef)
  | 219 => (.bool (b || (!h1)))
  | 220 => (.bool (b || (!h1)))
  | 221 => (bif (!(b || (!h1))) then (.agg #[.slice V.wa V.ws.length V.wc, .slice V.pa V.ps.length V.pc, .slice V.ca V.cs.length V.cc]) else undef)
  | 222 => (bif (!(b || (!h1))) then (.pointer (some ⟨B, 2, none⟩)) else undef)
  | 223 => (bif (!(b || (!h1))) then (.slice V.ca V.cs.length V.cc) else undef)
  | 224 => (bif (!(b || (!h1))) then (.int .i64 (k : Int)) else undef)
  | 225 => (bif (!(b || (!h1))) then (.pointer (some (ad V.ca (k * 5)))) else undef)
  | 226 => (bif (!(b || (!h1))) then (.pointer (some ⟨(ad V.ca (k * 5)).block, (ad V.ca (k * 5)).off + 2, none⟩)) else undef)
  | 227 => (bif (!(b || (!h1))) then (.int .i64 x.dst.1) else undef)
  | 228 => (bif (!(b || (!h1))) then (.bool h2) else undef)
  | 229 => (bif (!(b || (!h1))) then (.bool (!h2)) else undef)
  | 230 => (.bool ((b || (!h1)) || (!h2)))
  | 4 => (.bool ((b || (!h1)) || (!h2)))
  | _ => undef
def ra38o (_ : CfgV) (B k : Nat) (_ : Ch) (b _ _ : Bool) : Nat → Value
  | 1 => (.pointer (some ⟨B, 0, none⟩))
  | 4 => (.bool b)
  | 12 => (.int .i64 (k : Int))
  | _ => undef
set_option maxRecDepth 100000 in
set_option maxHeartbeats 8000000 in
theorem sec5 (w w0 wc : World) (V : CfgV) (R : List Int) (HR : Hid (R = errs V)) (HV : Hid (V.At w0)) (HI : Hid (InBox w0 w.heap.size V)) (HB0 : Hid (Below w.heap.size w w0)) (hl1 : V.ws.length ≤ 9223372036854775807) (hl2 : V.ps.length ≤ 9223372036854775807) (hl3 : V.cs.length ≤ 9223372036854775807)
    (a : Option Addr) (L : List Int) (c : Nat) (HL : Hid (L = errsTo V 4)) (HLL : Hid (L.length ≤ 4)) (hO : VOwn cZ 1 3 w0.heap.size wc a L c) (hB : Below w0.heap.size w0 wc) (x0 x2 x4 x5 x6 x7 x8 x9 x10 x11 x12 x13 x14 x15 x16 x17 x18 x19 x20 x21 x22 x23 x24 x25 x26 x27 x28 x29 x30 x31 x32 x33 x34 x35 x36 x37 x38 x39 x40 x41 x42 x43 x44 x45 x46 x47 x48 x49 x50 x51 x52 x53 x54 x55 x56 x57 x58 x59 x60 x61 x62 x63 x64 x65 x66 x67 x68 x69 x70 x71 x72 x73 x74 x75 x76 x77 x78 x79 x80 x81 x82 x83 x84 x85 x86 x87 x88 x89 x90 x91 x92 x93 x94 x95 x96 x97 x98 x99 x100 x101 x102 x103 x104 x105 x106 x107 x108 x109 x110 x111 x112 x113 x114 x115 x116 x117 x118 x119 x120 x121 x122 x123 x124 x125 x126 x127 x128 x129 x130 x131 x132 x133 x134 x135 x136 x137 x138 x139 x140 x141 x142 x143 x144 x145 x146 x147 x148 x149 x150 x151 x152 x153 x154 x155 x156 x157 x158 x159 x160 x161 x162 x163 x164 x165 x166 x167 x168 x169 x170 x171 x172 x173 x174 x175 x176 x177 x178 x179 x180 x181 x182 x183 x184 x185 x186 x187 x188 x189 x190 x191 x192 x193 x194 x195 x196 x197 x198 x199 x200 x201 x202 x203 x204 x205 x206 x207 x208 x209 x210 x211 x212 x213 x214 x215 x216 x217 x218 x219 x220 x221 x222 x223 x224 x225 x226 x227 x228 x229 x230 x231 x232 x233 x234 x235 : Value) :
    Code.wp Try.prog (restC 14 (bodyC Try.f21)) (bodyPost Try.prog Try.f21 (fun e w' => ∃ a c, e = .returned (.slice a R.length c) ∧ VOwn cZ 1 3 w.heap.size w' a R c ∧ Below w.heap.size w w')) ⟨#[x0, .pointer (some ⟨w.heap.size, 0, none⟩), x2, .slice a L.length c, x4, x5, x6, x7, x8, x9, x10, x11, x12, x13, x14, x15, x16, x17, x18, x19, x20, x21, x22, x23, x24, x25, x26, x27, x28, x29, x30, x31, x32, x33, x34, x35, x36, x37, x38, x39, x40, x41, x42, x43, x44, x45, x46, x47, x48, x49, x50, x51, x52, x53, x54, x55, x56, x57, x58, x59, x60, x61, x62, x63, x64, x65, x66, x67, x68, x69, x70, x71, x72, x73, x74, x75, x76, x77, x78, x79, x80, x81, x82, x83, x84, x85, x86, x87, x88, x89, x90, x91, x92, x93, x94, x95, x96, x97, x98, x99, x100, x101, x102, x103, x104, x105, x106, x107, x108, x109, x110, x111, x112, x113, x114, x115, x116, x117, x118, x119, x120, x121, x122, x123, x124, x125, x126, x127, x128, x129, x130, x131, x132, x133, x134, x135, x136, x137, x138, x139, x140, x141, x142, x143, x144, x145, x146, x147, x148, x149, x150, x151, x152, x153, x154, x155, x156, x157, x158, x159, x160, x161, x162, x163, x164, x165, x166, x167, x168, x169, x170, x171, x172, x173, x174, x175, x176, x177, x178, x179, x180, x181, x182, x183, x184, x185, x186, x187, x188, x189, x190, x191, x192, x193, x194, x195, x196, x197, x198, x199, x200, x201, x202, x203, x204, x205, x206, x207, x208, x209, x210, x211, x212, x213, x214, x215, x216, x217, x218, x219, x220, x221, x222, x223, x224, x225, x226, x227, x228, x229, x230, x231, x232, x233, x234, x235], []⟩ wc := by
  conv in restC _ _ => whnf
  have HO := Lib.hid hO
  have HBB := Lib.hid hB
  obtain ⟨c0, c1, c2⟩ := HI.out.keep hB
  clear hO hB
  obtain ⟨g1, hg1⟩ : ∃ g, Hid (decide ((8 : Int) < (V.cs.length : Int)) = g) := ⟨_, rfl⟩
  obtain ⟨z, hz⟩ : ∃ z, Hid (chErr V.cs = z) := ⟨_, rfl⟩
  obtain ⟨g2, hg2⟩ : ∃ g, Hid (((z : Int) != 0) = g) := ⟨_, rfl⟩
  obtain ⟨bl, hR⟩ : ∃ bl, Hid (bl = (g1 || g2)) := ⟨_, rfl⟩
  have HC3 : Hid (∀ q : After wc, Calls Try.prog 63 #[.slice V.ca V.cs.length V.cc] q.to fun e w' => e = .returned (.int .i64 z) ∧ Below q.to.heap.size q.to w') := fun q => by
    have := refchall_calls q.to V.ca V.cs V.cc (HV.out.chs.stay cCh_len (HBB.out.trans (q.bel.mono HBB.out.size)))
    rwa [hz.out] at this
  go_upto_region 34 with fail
  refine wp_region_vals0 (ra34 V w.heap.size z g1 g2) (ra34o V w.heap.size z g1 g2) [1] (by kernel_rfl) ⟨rfl, trivial⟩ ?_ ?_
  · refine opsAll_cons ?_ (opsAll_cons ?_ (opsAll_cons ?_ (opsAll_cons ?_ (opsAll_cons ?_ (opsAll_cons ?_ (opsAll_cons ?_ (opsAll_cons ?_ (opsAll_cons ?_ (opsAll_cons ?_ (opsAll_cons ?_ opsAll_nil))))))))))
    all_goals intro a hk
    · -- slot 191
      exact .inl ⟨wanted_free rfl, q_field (.tmp 1) rfl (show a.eval (.tmp 1) = (.pointer (some ⟨w.heap.size, 0, none⟩)) from hk.old 1 (by kernel_rfl) (by kernel_rfl)) (v := (.pointer (some ⟨w.heap.size, 2, none⟩))) (fun w => by kernel_rfl) rfl⟩
    · -- slot 192
      exact .inl ⟨wanted_free rfl, q_load (.tmp 191) rfl (show a.eval (.tmp 191) = (.pointer (some ⟨w.heap.size, 2, none⟩)) from hk.slot 191 (by kernel_rfl)) (v := (.slice V.ca V.cs.length V.cc)) (fun q => load_at (fun w => by kernel_rfl) (keep q.bel c2)) rfl⟩
    · -- slot 193
      exact .inl ⟨wanted_free rfl, q_len rfl (by kernel_rfl) (show a.eval (.tmp 192) = (.slice V.ca V.cs.length V.cc) from hk.slot 192 (by kernel_rfl)) rfl⟩
    · -- slot 194
      exact .inl ⟨wanted_free rfl, q_bin rfl (show a.eval (.tmp 193) = (.int .i64 (V.cs.length : Int)) from hk.slot 193 (by kernel_rfl)) rfl (v := .bool (decide ((8 : Int) < (V.cs.length : Int)))) (fun w => by kernel_rfl) (congrArg Value.bool (hg1.out))⟩
    · -- slot 195
      exact .inl ⟨wanted_free rfl, q_move (.tmp 194) rfl (show a.eval (.tmp 194) = (.bool g1) from hk.slot 194 (by kernel_rfl))⟩
    · -- slot 196
      cases g1 with
      | true =>
        exact .inr ⟨unwanted_by 195 false (by kernel_rfl) (show a.eval (.tmp 195) = (.bool true) from hk.slot 195 (by kernel_rfl)), rfl⟩
      | false =>
        exact .inl ⟨wanted_by 195 false (by kernel_rfl) (show a.eval (.tmp 195) = (.bool false) from hk.slot 195 (by kernel_rfl)), q_field (.tmp 1) rfl (show a.eval (.tmp 1) = (.pointer (some ⟨w.heap.size, 0, none⟩)) from hk.old 1 (by kernel_rfl) (by kernel_rfl)) (v := (.pointer (some ⟨w.heap.size, 2, none⟩))) (fun w => by kernel_rfl) rfl⟩
    · -- slot 197
      cases g1 with
      | true =>
        exact .inr ⟨unwanted_by 195 false (by kernel_rfl) (show a.eval (.tmp 195) = (.bool true) from hk.slot 195 (by kernel_rfl)), rfl⟩
      | false =>
        exact .inl ⟨wanted_by 195 false (by kernel_rfl) (show a.eval (.tmp 195) = (.bool false) from hk.slot 195 (by kernel_rfl)), q_load (.tmp 196) rfl (show a.eval (.tmp 196) = (.pointer (some ⟨w.heap.size, 2, none⟩)) from hk.slot 196 (by kernel_rfl)) (v := (.slice V.ca V.cs.length V.cc)) (fun q => load_at (fun w => by kernel_rfl) (keep q.bel c2)) rfl⟩
    · -- slot 198
      cases g1 with
      | true =>
        exact .inr ⟨unwanted_by 195 false (by kernel_rfl) (show a.eval (.tmp 195) = (.bool true) from hk.slot 195 (by kernel_rfl)), rfl⟩
      | false =>
        exact .inl ⟨wanted_by 195 false (by kernel_rfl) (show a.eval (.tmp 195) = (.bool false) from hk.slot 195 (by kernel_rfl)), q_call rfl rfl #[(.slice V.ca V.cs.length V.cc)] (fun w => by kernel_rfl) (by simp only [List.map_toArray, List.map_cons, List.map_nil, (show a.eval (.tmp 197) = (.slice V.ca V.cs.length V.cc) from hk.slot 197 (by kernel_rfl))]) (v := (.int .i64 z)) (fun q => HC3.out q) rfl⟩
    · -- slot 199
      cases g1 with
      | true =>
        exact .inr ⟨unwanted_by 195 false (by kernel_rfl) (show a.eval (.tmp 195) = (.bool true) from hk.slot 195 (by kernel_rfl)), rfl⟩
      | false =>
        exact .inl ⟨wanted_by 195 false (by kernel_rfl) (show a.eval (.tmp 195) = (.bool false) from hk.slot 195 (by kernel_rfl)), q_bin rfl (show a.eval (.tmp 198) = (.int .i64 z) from hk.slot 198 (by kernel_rfl)) rfl (v := .bool (((z : Int) != 0))) (fun w => by kernel_rfl) (congrArg Value.bool (hg2.out))⟩
    · -- slot 200
      cases g1 with
      | true =>
        exact .inl ⟨wanted_free rfl, q_pick rfl true (show a.eval (.tmp 195) = (.bool true) from hk.slot 195 (by kernel_rfl)) rfl⟩
      | false =>
        exact .inl ⟨wanted_free rfl, q_pick rfl false (show a.eval (.tmp 195) = (.bool false) from hk.slot 195 (by kernel_rfl)) (show a.eval (.tmp 199) = (.bool g2) from hk.slot 199 (by kernel_rfl))⟩
    · -- slot 4
      exact .inl ⟨wanted_free rfl, q_assign (.tmp 200) rfl (show a.eval (.tmp 200) = (.bool (g1 || g2)) from hk.slot 200 (by kernel_rfl))⟩
  intro a ⟨wd, hbd⟩ hsame hall
  have he := act_same hsame [191, 192, 193, 194, 195, 196, 197, 198, 199, 200, 4] (by kernel_rfl)
  simp only [List.foldl_cons, List.foldl_nil] at he
  rw [show a.eval (.tmp 4) = (.bool bl) from (hall 4 (by kernel_rfl)).trans (congrArg Value.bool hR.out.symm)] at he
  generalize a.eval (.tmp 191) = x191 at he
  generalize a.eval (.tmp 192) = x192 at he
  generalize a.eval (.tmp 193) = x193 at he
  generalize a.eval (.tmp 194) = x194 at he
  generalize a.eval (.tmp 195) = x195 at he
  generalize a.eval (.tmp 196) = x196 at he
  generalize a.eval (.tmp 197) = x197 at he
  generalize a.eval (.tmp 198) = x198 at he
  generalize a.eval (.tmp 199) = x199 at he
  generalize a.eval (.tmp 200) = x200 at he
  simp only [put_lit] at he
  dsimp only [List.set_cons_zero, List.set_cons_succ] at he
  subst he
  clear hsame hall
  go_wp2_with fail
  have HBB := Lib.hid (HBB.out.trans (hbd.mono HBB.out.size))
  have HO := Lib.hid (HO.out.stay hbd)
  obtain ⟨c0, c1, c2⟩ := HI.out.keep HBB.out
  clear hbd
  go_loopw [4, 12] (fun b s wr => ∃ (k : Nat) (q : Bool), b = .bool q ∧ s = .int .i64 k ∧ k ≤ V.cs.length ∧ Hid (q = (bl || (V.cs.take k).any (chBad V))) ∧ Below wd.heap.size wd wr) (fun _ s _ => V.cs.length - (intOf s).toNat)
  case atStart => exact ⟨0, bl, rfl, rfl, Nat.zero_le _, by rw [Hid]; simp, Below.refl _ _⟩
  case round =>
    obtain ⟨k, b, rfl, rfl, hk, Hb, B⟩ := hrel
    have HBw := Lib.hid (HBB.out.trans (B.mono HBB.out.size))
    obtain ⟨c0, c1, c2⟩ := HI.out.keep HBw.out
    by_cases hlt : k < V.cs.length
    · skip
      have i0 := HV.out.chs.index etC k hlt
      have u1 : ∀ q : After wr, _ := fun q => (HV.out.chs.stay cCh_len (HBw.out.trans (q.bel.mono HBw.out.size))).field k hlt 1 (by decide) rfl
      have u2 : ∀ q : After wr, _ := fun q => (HV.out.chs.stay cCh_len (HBw.out.trans (q.bel.mono HBw.out.size))).field k hlt 2 (by decide) rfl
      have HBk := Lib.hid B
      have HS := Lib.hid (any_take (chBad V) V.cs k hlt)
      clear B
      obtain ⟨x, hx⟩ : ∃ x : Ch, Hid (x = V.cs[k]) := ⟨V.cs[k], rfl⟩
      rw [← hx.out] at u1 u2 HS
      obtain ⟨h1, hh1⟩ : ∃ g, Hid (hasP V.ps x.src.1 = g) := ⟨_, rfl⟩
      obtain ⟨h2, hh2⟩ : ∃ g, Hid (hasP V.ps x.dst.1 = g) := ⟨_, rfl⟩
      have HC1 : Hid (∀ q : After wr, Calls Try.prog 60 #[.agg #[.slice V.wa V.ws.length V.wc, .slice V.pa V.ps.length V.pc, .slice V.ca V.cs.length V.cc], .int .i64 x.src.1] q.to fun e w' => e = .returned (.bool h1) ∧ Below q.to.heap.size q.to w') := fun q => by
        have := refhas_calls q.to V (HV.out.stay (HBw.out.trans (q.bel.mono HBw.out.size))) x.src.1
        rwa [hh1.out] at this
      have HC2 : Hid (∀ q : After wr, Calls Try.prog 60 #[.agg #[.slice V.wa V.ws.length V.wc, .slice V.pa V.ps.length V.pc, .slice V.ca V.cs.length V.cc], .int .i64 x.dst.1] q.to fun e w' => e = .returned (.bool h2) ∧ Below q.to.heap.size q.to w') := fun q => by
        have := refhas_calls q.to V (HV.out.stay (HBw.out.trans (q.bel.mono HBw.out.size))) x.dst.1
        rwa [hh2.out] at this
      obtain ⟨R, hR⟩ : ∃ R, Hid (R = ((b || (!h1)) || (!h2))) := ⟨_, rfl⟩
      have HN : Hid (R = (bl || (V.cs.take (k + 1)).any (chBad V))) := by
        have e : chBad V x = ((!h1) || (!h2)) := by unfold chBad; rw [hh1.out, hh2.out]
        rw [Hid, HS.out, hR.out, Hb.out, e]
        cases bl <;> cases (V.cs.take k).any (chBad V) <;> cases h1 <;> cases h2 <;> rfl
      go_wp2_with fail
      refine wp_region_vals (ra38 V w.heap.size k x b h1 h2) (ra38o V w.heap.size k x b h1 h2) [1, 4, 12] (by kernel_rfl) (by kernel_rfl) (by kernel_rfl) ⟨rfl, rfl, rfl, trivial⟩ ?_ ?_
      · refine opsAll_cons ?_ (opsAll_cons ?_ (opsAll_cons ?_ (opsAll_cons ?_ (opsAll_cons ?_ (opsAll_cons ?_ (opsAll_cons ?_ (opsAll_cons ?_ (opsAll_cons ?_ (opsAll_cons ?_ (opsAll_cons ?_ (opsAll_cons ?_ (opsAll_cons ?_ (opsAll_cons ?_ (opsAll_cons ?_ (opsAll_cons ?_ (opsAll_cons ?_ (opsAll_cons ?_ (opsAll_cons ?_ (opsAll_cons ?_ (opsAll_cons ?_ (opsAll_cons ?_ (opsAll_cons ?_ (opsAll_cons ?_ opsAll_nil)))))))))))))))))))))))
        all_goals intro a hk
        · -- slot 208
          exact .inl ⟨wanted_free rfl, q_move (.tmp 4) rfl (show a.eval (.tmp 4) = (.bool b) from hk.old 4 (by kernel_rfl) (by kernel_rfl))⟩
        · -- slot 209
          exact .inl ⟨wanted_free rfl, q_move (.tmp 208) rfl (show a.eval (.tmp 208) = (.bool b) from hk.slot 208 (by kernel_rfl))⟩
        · -- slot 210
          cases b with
          | true =>
            exact .inr ⟨unwanted_by 209 false (by kernel_rfl) (show a.eval (.tmp 209) = (.bool true) from hk.slot 209 (by kernel_rfl)), rfl⟩
          | false =>
            exact .inl ⟨wanted_by 209 false (by kernel_rfl) (show a.eval (.tmp 209) = (.bool false) from hk.slot 209 (by kernel_rfl)), q_load (.tmp 1) rfl (show a.eval (.tmp 1) = (.pointer (some ⟨w.heap.size, 0, none⟩)) from hk.old 1 (by kernel_rfl) (by kernel_rfl)) (v := (.agg #[.slice V.wa V.ws.length V.wc, .slice V.pa V.ps.length V.pc, .slice V.ca V.cs.length V.cc])) (fun q => load3 (fun w => by kernel_rfl) (fun w => by kernel_rfl) (keep q.bel c0) (keep q.bel c1) (keep q.bel c2)) rfl⟩
        · -- slot 211
          cases b with
          | true =>
            exact .inr ⟨unwanted_by 209 false (by kernel_rfl) (show a.eval (.tmp 209) = (.bool true) from hk.slot 209 (by kernel_rfl)), rfl⟩
          | false =>
            exact .inl ⟨wanted_by 209 false (by kernel_rfl) (show a.eval (.tmp 209) = (.bool false) from hk.slot 209 (by kernel_rfl)), q_field (.tmp 1) rfl (show a.eval (.tmp 1) = (.pointer (some ⟨w.heap.size, 0, none⟩)) from hk.old 1 (by kernel_rfl) (by kernel_rfl)) (v := (.pointer (some ⟨w.heap.size, 2, none⟩))) (fun w => by kernel_rfl) rfl⟩
        · -- slot 212
          cases b with
          | true =>
            exact .inr ⟨unwanted_by 209 false (by kernel_rfl) (show a.eval (.tmp 209) = (.bool true) from hk.slot 209 (by kernel_rfl)), rfl⟩
          | false =>
            exact .inl ⟨wanted_by 209 false (by kernel_rfl) (show a.eval (.tmp 209) = (.bool false) from hk.slot 209 (by kernel_rfl)), q_load (.tmp 211) rfl (show a.eval (.tmp 211) = (.pointer (some ⟨w.heap.size, 2, none⟩)) from hk.slot 211 (by kernel_rfl)) (v := (.slice V.ca V.cs.length V.cc)) (fun q => load_at (fun w => by kernel_rfl) (keep q.bel c2)) rfl⟩
        · -- slot 213
          cases b with
          | true =>
            exact .inr ⟨unwanted_by 209 false (by kernel_rfl) (show a.eval (.tmp 209) = (.bool true) from hk.slot 209 (by kernel_rfl)), rfl⟩
          | false =>
            exact .inl ⟨wanted_by 209 false (by kernel_rfl) (show a.eval (.tmp 209) = (.bool false) from hk.slot 209 (by kernel_rfl)), q_move (.tmp 12) rfl (show a.eval (.tmp 12) = (.int .i64 (k : Int)) from hk.old 12 (by kernel_rfl) (by kernel_rfl))⟩
        · -- slot 214
          cases b with
          | true =>
            exact .inr ⟨unwanted_by 209 false (by kernel_rfl) (show a.eval (.tmp 209) = (.bool true) from hk.slot 209 (by kernel_rfl)), rfl⟩
          | false =>
            exact .inl ⟨wanted_by 209 false (by kernel_rfl) (show a.eval (.tmp 209) = (.bool false) from hk.slot 209 (by kernel_rfl)), q_index (.tmp 212) (.tmp 213) rfl (show a.eval (.tmp 212) = (.slice V.ca V.cs.length V.cc) from hk.slot 212 (by kernel_rfl)) (show a.eval (.tmp 213) = (.int .i64 (k : Int)) from hk.slot 213 (by kernel_rfl)) (v := (.pointer (some (ad V.ca (k * 5))))) (fun w => i0 w) rfl⟩
        · -- slot 215
          cases b with
          | true =>
            exact .inr ⟨unwanted_by 209 false (by kernel_rfl) (show a.eval (.tmp 209) = (.bool true) from hk.slot 209 (by kernel_rfl)), rfl⟩
          | false =>
            exact .inl ⟨wanted_by 209 false (by kernel_rfl) (show a.eval (.tmp 209) = (.bool false) from hk.slot 209 (by kernel_rfl)), q_field (.tmp 214) rfl (show a.eval (.tmp 214) = (.pointer (some (ad V.ca (k * 5)))) from hk.slot 214 (by kernel_rfl)) (v := (.pointer (some ⟨(ad V.ca (k * 5)).block, (ad V.ca (k * 5)).off + 1, none⟩))) (fun w => by kernel_rfl) rfl⟩
        · -- slot 216
          cases b with
          | true =>
            exact .inr ⟨unwanted_by 209 false (by kernel_rfl) (show a.eval (.tmp 209) = (.bool true) from hk.slot 209 (by kernel_rfl)), rfl⟩
          | false =>
            exact .inl ⟨wanted_by 209 false (by kernel_rfl) (show a.eval (.tmp 209) = (.bool false) from hk.slot 209 (by kernel_rfl)), q_load (.tmp 215) rfl (show a.eval (.tmp 215) = (.pointer (some ⟨(ad V.ca (k * 5)).block, (ad V.ca (k * 5)).off + 1, none⟩)) from hk.slot 215 (by kernel_rfl)) (v := (.int .i64 x.src.1)) (fun q => load_at (fun w => by kernel_rfl) (u1 q)) rfl⟩
        · -- slot 217
          cases b with
          | true =>
            exact .inr ⟨unwanted_by 209 false (by kernel_rfl) (show a.eval (.tmp 209) = (.bool true) from hk.slot 209 (by kernel_rfl)), rfl⟩
          | false =>
            exact .inl ⟨wanted_by 209 false (by kernel_rfl) (show a.eval (.tmp 209) = (.bool false) from hk.slot 209 (by kernel_rfl)), q_call rfl rfl #[(.agg #[.slice V.wa V.ws.length V.wc, .slice V.pa V.ps.length V.pc, .slice V.ca V.cs.length V.cc]), (.int .i64 x.src.1)] (fun w => by kernel_rfl) (by simp only [List.map_toArray, List.map_cons, List.map_nil, (show a.eval (.tmp 210) = (.agg #[.slice V.wa V.ws.length V.wc, .slice V.pa V.ps.length V.pc, .slice V.ca V.cs.length V.cc]) from hk.slot 210 (by kernel_rfl)), (show a.eval (.tmp 216) = (.int .i64 x.src.1) from hk.slot 216 (by kernel_rfl))]) (v := (.bool h1)) (fun q => HC1.out q) rfl⟩
        · -- slot 218
          cases b with
          | true =>
            exact .inr ⟨unwanted_by 209 false (by kernel_rfl) (show a.eval (.tmp 209) = (.bool true) from hk.slot 209 (by kernel_rfl)), rfl⟩
          | false =>
            exact .inl ⟨wanted_by 209 false (by kernel_rfl) (show a.eval (.tmp 209) = (.bool false) from hk.slot 209 (by kernel_rfl)), q_not rfl _ (show a.eval (.tmp 217) = (.bool h1) from hk.slot 217 (by kernel_rfl)) rfl⟩
        · -- slot 219
          cases b with
          | true =>
            exact .inl ⟨wanted_free rfl, q_pick rfl true (show a.eval (.tmp 209) = (.bool true) from hk.slot 209 (by kernel_rfl)) rfl⟩
          | false =>
            exact .inl ⟨wanted_free rfl, q_pick rfl false (show a.eval (.tmp 209) = (.bool false) from hk.slot 209 (by kernel_rfl)) (show a.eval (.tmp 218) = (.bool (!h1)) from hk.slot 218 (by kernel_rfl))⟩
        · -- slot 220
          exact .inl ⟨wanted_free rfl, q_move (.tmp 219) rfl (show a.eval (.tmp 219) = (.bool (b || (!h1))) from hk.slot 219 (by kernel_rfl))⟩
        · -- slot 221
          cases b with
          | true =>
            exact .inr ⟨unwanted_by 220 false (by kernel_rfl) (show a.eval (.tmp 220) = (.bool (true || (!h1))) from hk.slot 220 (by kernel_rfl)), rfl⟩
          | false =>
            cases h1 with
            | true =>
              exact .inl ⟨wanted_by 220 false (by kernel_rfl) (show a.eval (.tmp 220) = (.bool (false || (!true))) from hk.slot 220 (by kernel_rfl)), q_load (.tmp 1) rfl (show a.eval (.tmp 1) = (.pointer (some ⟨w.heap.size, 0, none⟩)) from hk.old 1 (by kernel_rfl) (by kernel_rfl)) (v := (.agg #[.slice V.wa V.ws.length V.wc, .slice V.pa V.ps.length V.pc, .slice V.ca V.cs.length V.cc])) (fun q => load3 (fun w => by kernel_rfl) (fun w => by kernel_rfl) (keep q.bel c0) (keep q.bel c1) (keep q.bel c2)) rfl⟩
            | false =>
              exact .inr ⟨unwanted_by 220 false (by kernel_rfl) (show a.eval (.tmp 220) = (.bool (false || (!false))) from hk.slot 220 (by kernel_rfl)), rfl⟩
        · -- slot 222
          cases b with
          | true =>
            exact .inr ⟨unwanted_by 220 false (by kernel_rfl) (show a.eval (.tmp 220) = (.bool (true || (!h1))) from hk.slot 220 (by kernel_rfl)), rfl⟩
          | false =>
            cases h1 with
            | true =>
              exact .inl ⟨wanted_by 220 false (by kernel_rfl) (show a.eval (.tmp 220) = (.bool (false || (!true))) from hk.slot 220 (by kernel_rfl)), q_field (.tmp 1) rfl (show a.eval (.tmp 1) = (.pointer (some ⟨w.heap.size, 0, none⟩)) from hk.old 1 (by kernel_rfl) (by kernel_rfl)) (v := (.pointer (some ⟨w.heap.size, 2, none⟩))) (fun w => by kernel_rfl) rfl⟩
            | false =>
              exact .inr ⟨unwanted_by 220 false (by kernel_rfl) (show a.eval (.tmp 220) = (.bool (false || (!false))) from hk.slot 220 (by kernel_rfl)), rfl⟩
        · -- slot 223
          cases b with
          | true =>
            exact .inr ⟨unwanted_by 220 false (by kernel_rfl) (show a.eval (.tmp 220) = (.bool (true || (!h1))) from hk.slot 220 (by kernel_rfl)), rfl⟩
          | false =>
            cases h1 with
            | true =>
              exact .inl ⟨wanted_by 220 false (by kernel_rfl) (show a.eval (.tmp 220) = (.bool (false || (!true))) from hk.slot 220 (by kernel_rfl)), q_load (.tmp 222) rfl (show a.eval (.tmp 222) = (.pointer (some ⟨w.heap.size, 2, none⟩)) from hk.slot 222 (by kernel_rfl)) (v := (.slice V.ca V.cs.length V.cc)) (fun q => load_at (fun w => by kernel_rfl) (keep q.bel c2)) rfl⟩
            | false =>
              exact .inr ⟨unwanted_by 220 false (by kernel_rfl) (show a.eval (.tmp 220) = (.bool (false || (!false))) from hk.slot 220 (by kernel_rfl)), rfl⟩
        · -- slot 224
          cases b with
          | true =>
            exact .inr ⟨unwanted_by 220 false (by kernel_rfl) (show a.eval (.tmp 220) = (.bool (true || (!h1))) from hk.slot 220 (by kernel_rfl)), rfl⟩
          | false =>
            cases h1 with
            | true =>
              exact .inl ⟨wanted_by 220 false (by kernel_rfl) (show a.eval (.tmp 220) = (.bool (false || (!true))) from hk.slot 220 (by kernel_rfl)), q_move (.tmp 12) rfl (show a.eval (.tmp 12) = (.int .i64 (k : Int)) from hk.old 12 (by kernel_rfl) (by kernel_rfl))⟩
            | false =>
              exact .inr ⟨unwanted_by 220 false (by kernel_rfl) (show a.eval (.tmp 220) = (.bool (false || (!false))) from hk.slot 220 (by kernel_rfl)), rfl⟩
        · -- slot 225
          cases b with
          | true =>
            exact .inr ⟨unwanted_by 220 false (by kernel_rfl) (show a.eval (.tmp 220) = (.bool (true || (!h1))) from hk.slot 220 (by kernel_rfl)), rfl⟩
          | false =>
            cases h1 with
            | true =>
              exact .inl ⟨wanted_by 220 false (by kernel_rfl) (show a.eval (.tmp 220) = (.bool (false || (!true))) from hk.slot 220 (by kernel_rfl)), q_index (.tmp 223) (.tmp 224) rfl (show a.eval (.tmp 223) = (.slice V.ca V.cs.length V.cc) from hk.slot 223 (by kernel_rfl)) (show a.eval (.tmp 224) = (.int .i64 (k : Int)) from hk.slot 224 (by kernel_rfl)) (v := (.pointer (some (ad V.ca (k * 5))))) (fun w => i0 w) rfl⟩
            | false =>
              exact .inr ⟨unwanted_by 220 false (by kernel_rfl) (show a.eval (.tmp 220) = (.bool (false || (!false))) from hk.slot 220 (by kernel_rfl)), rfl⟩
        · -- slot 226
          cases b with
          | true =>
            exact .inr ⟨unwanted_by 220 false (by kernel_rfl) (show a.eval (.tmp 220) = (.bool (true || (!h1))) from hk.slot 220 (by kernel_rfl)), rfl⟩
          | false =>
            cases h1 with
            | true =>
              exact .inl ⟨wanted_by 220 false (by kernel_rfl) (show a.eval (.tmp 220) = (.bool (false || (!true))) from hk.slot 220 (by kernel_rfl)), q_field (.tmp 225) rfl (show a.eval (.tmp 225) = (.pointer (some (ad V.ca (k * 5)))) from hk.slot 225 (by kernel_rfl)) (v := (.pointer (some ⟨(ad V.ca (k * 5)).block, (ad V.ca (k * 5)).off + 2, none⟩))) (fun w => by kernel_rfl) rfl⟩
            | false =>
              exact .inr ⟨unwanted_by 220 false (by kernel_rfl) (show a.eval (.tmp 220) = (.bool (false || (!false))) from hk.slot 220 (by kernel_rfl)), rfl⟩
        · -- slot 227
          cases b with
          | true =>
            exact .inr ⟨unwanted_by 220 false (by kernel_rfl) (show a.eval (.tmp 220) = (.bool (true || (!h1))) from hk.slot 220 (by kernel_rfl)), rfl⟩
          | false =>
            cases h1 with
            | true =>
              exact .inl ⟨wanted_by 220 false (by kernel_rfl) (show a.eval (.tmp 220) = (.bool (false || (!true))) from hk.slot 220 (by kernel_rfl)), q_load (.tmp 226) rfl (show a.eval (.tmp 226) = (.pointer (some ⟨(ad V.ca (k * 5)).block, (ad V.ca (k * 5)).off + 2, none⟩)) from hk.slot 226 (by kernel_rfl)) (v := (.int .i64 x.dst.1)) (fun q => load_at (fun w => by kernel_rfl) (u2 q)) rfl⟩
            | false =>
              exact .inr ⟨unwanted_by 220 false (by kernel_rfl) (show a.eval (.tmp 220) = (.bool (false || (!false))) from hk.slot 220 (by kernel_rfl)), rfl⟩
        · -- slot 228
          cases b with
          | true =>
            exact .inr ⟨unwanted_by 220 false (by kernel_rfl) (show a.eval (.tmp 220) = (.bool (true || (!h1))) from hk.slot 220 (by kernel_rfl)), rfl⟩
          | false =>
            cases h1 with
            | true =>
              exact .inl ⟨wanted_by 220 false (by kernel_rfl) (show a.eval (.tmp 220) = (.bool (false || (!true))) from hk.slot 220 (by kernel_rfl)), q_call rfl rfl #[(.agg #[.slice V.wa V.ws.length V.wc, .slice V.pa V.ps.length V.pc, .slice V.ca V.cs.length V.cc]), (.int .i64 x.dst.1)] (fun w => by kernel_rfl) (by simp only [List.map_toArray, List.map_cons, List.map_nil, (show a.eval (.tmp 221) = (.agg #[.slice V.wa V.ws.length V.wc, .slice V.pa V.ps.length V.pc, .slice V.ca V.cs.length V.cc]) from hk.slot 221 (by kernel_rfl)), (show a.eval (.tmp 227) = (.int .i64 x.dst.1) from hk.slot 227 (by kernel_rfl))]) (v := (.bool h2)) (fun q => HC2.out q) rfl⟩
            | false =>
              exact .inr ⟨unwanted_by 220 false (by kernel_rfl) (show a.eval (.tmp 220) = (.bool (false || (!false))) from hk.slot 220 (by kernel_rfl)), rfl⟩
        · -- slot 229
          cases b with
          | true =>
            exact .inr ⟨unwanted_by 220 false (by kernel_rfl) (show a.eval (.tmp 220) = (.bool (true || (!h1))) from hk.slot 220 (by kernel_rfl)), rfl⟩
          | false =>
            cases h1 with
            | true =>
              exact .inl ⟨wanted_by 220 false (by kernel_rfl) (show a.eval (.tmp 220) = (.bool (false || (!true))) from hk.slot 220 (by kernel_rfl)), q_not rfl _ (show a.eval (.tmp 228) = (.bool h2) from hk.slot 228 (by kernel_rfl)) rfl⟩
            | false =>
              exact .inr ⟨unwanted_by 220 false (by kernel_rfl) (show a.eval (.tmp 220) = (.bool (false || (!false))) from hk.slot 220 (by kernel_rfl)), rfl⟩
        · -- slot 230
          cases b with
          | true =>
            exact .inl ⟨wanted_free rfl, q_pick rfl true (show a.eval (.tmp 220) = (.bool (true || (!h1))) from hk.slot 220 (by kernel_rfl)) rfl⟩
          | false =>
            cases h1 with
            | true =>
              exact .inl ⟨wanted_free rfl, q_pick rfl false (show a.eval (.tmp 220) = (.bool (false || (!true))) from hk.slot 220 (by kernel_rfl)) (show a.eval (.tmp 229) = (.bool (!h2)) from hk.slot 229 (by kernel_rfl))⟩
            | false =>
              exact .inl ⟨wanted_free rfl, q_pick rfl true (show a.eval (.tmp 220) = (.bool (false || (!false))) from hk.slot 220 (by kernel_rfl)) rfl⟩
        · -- slot 4
          exact .inl ⟨wanted_free rfl, q_assign (.tmp 230) rfl (show a.eval (.tmp 230) = (.bool ((b || (!h1)) || (!h2))) from hk.slot 230 (by kernel_rfl))⟩
      intro a ⟨w3, hb3⟩ hsame hall
      have he := act_same hsame [208, 209, 210, 211, 212, 213, 214, 215, 216, 217, 218, 219, 220, 221, 222, 223, 224, 225, 226, 227, 228, 229, 230, 4] (by kernel_rfl)
      simp only [List.foldl_cons, List.foldl_nil] at he
      rw [show a.eval (.tmp 4) = (.bool R) from (hall 4 (by kernel_rfl)).trans (congrArg Value.bool hR.out.symm)] at he
      generalize a.eval (.tmp 208) = x208 at he
      generalize a.eval (.tmp 209) = x209 at he
      generalize a.eval (.tmp 210) = x210 at he
      generalize a.eval (.tmp 211) = x211 at he
      generalize a.eval (.tmp 212) = x212 at he
      generalize a.eval (.tmp 213) = x213 at he
      generalize a.eval (.tmp 214) = x214 at he
      generalize a.eval (.tmp 215) = x215 at he
      generalize a.eval (.tmp 216) = x216 at he
      generalize a.eval (.tmp 217) = x217 at he
      generalize a.eval (.tmp 218) = x218 at he
      generalize a.eval (.tmp 219) = x219 at he
      generalize a.eval (.tmp 220) = x220 at he
      generalize a.eval (.tmp 221) = x221 at he
      generalize a.eval (.tmp 222) = x222 at he
      generalize a.eval (.tmp 223) = x223 at he
      generalize a.eval (.tmp 224) = x224 at he
      generalize a.eval (.tmp 225) = x225 at he
      generalize a.eval (.tmp 226) = x226 at he
      generalize a.eval (.tmp 227) = x227 at he
      generalize a.eval (.tmp 228) = x228 at he
      generalize a.eval (.tmp 229) = x229 at he
      generalize a.eval (.tmp 230) = x230 at he
      simp only [put_lit] at he
      dsimp only [List.set_cons_zero, List.set_cons_succ] at he
      subst he
      clear hsame hall
      go_wp2_with fail
      go_roundw
      case rel => exact ⟨k + 1, R, rfl, by go_num, by omega, HN.out, HBk.out.trans (hb3.mono HBk.out.size)⟩
      case measure => simp [intOf]; omega
    · have hk2 : k = V.cs.length := by omega
      have Hb : Hid (b = channelsBad V) := by
        rw [Hid, Hb.out, hk2, List.take_length, hR.out, ← hg1.out, ← hg2.out, ← hz.out]
        unfold channelsBad
        have e1 : decide (8 < V.cs.length) = decide ((8 : Int) < (V.cs.length : Int)) := decide_eq_decide.2 (by omega)
        have e2 : decide (chErr V.cs ≠ 0) = (chErr V.cs != 0) := by rw [Bool.eq_iff_iff]; simp
        rw [e1, e2, Bool.or_assoc]
      have HO := Lib.hid (HO.out.stay B)
      have HBB := Lib.hid HBw.out
      clear hk2
      go_upto_if 231 with fail
      go_cut [3] (fun s3 wx => ∃ (a : Option Addr) (L : List Int) (c : Nat), s3 = .slice a L.length c ∧ Hid (L = errsTo V 5) ∧ Hid (L.length ≤ 5) ∧ VOwn cZ 1 3 w0.heap.size wx a L c ∧ Below w0.heap.size w0 wx)
      case first =>
        have HT := Lib.hid (errsTo_succ V 4 (show 4 < 5 by decide))
        cases b with
        | true =>
          have HL2 : Hid (L ++ [(100 : Int)] = errsTo V 5) := by rw [Hid, HT.out, ← HL.out]; simp [bads, ← Hb.out]
          go_wp2_with ((with_reducible refine wpList_vapp1 (o := ⟨some 234, .call _, _, _, _, _⟩) etI cZ_len cZ_one (y := 100) (.tmp 232) (.tmp 233) (by with_unfolding_all rfl) (by with_unfolding_all rfl) HO.out (by with_unfolding_all rfl) (by have := HLL.out; omega) HBB.out.size (by with_unfolding_all rfl) (by with_unfolding_all rfl) ?_); intro a4 c4 w4 hO4 hg4 hn4; have HO4 := Lib.hid hO4; have HB4 := Lib.hid (HBB.out.trans (HO.out.grown hg4 HBB.out.size)); clear hO4 hg4 hn4)
          go_meet
          exact ⟨a4, L ++ [100], c4, by simp, HL2.out, by have := HLL.out; rw [Hid, List.length_append, List.length_singleton]; omega, HO4.out, HB4.out⟩
        | false =>
          have HL2 : Hid (L = errsTo V 5) := by rw [Hid, HT.out, ← HL.out]; simp [bads, ← Hb.out]
          go_wp2_with fail
          go_meet
          exact ⟨a, L, c, rfl, HL2.out, by have := HLL.out; rw [Hid]; omega, HO.out, HBB.out⟩
      case rest =>
        obtain ⟨a, L, c, rfl, HL, HLL, hO, hB⟩ := hcut
        clear Hb
        go_step
        exact sec6 w w0 wc V R HR HV HI HB0 hl1 hl2 hl3 a L c HL HLL hO hB _ _ _ _ _ _ _ _ _ _ _ _ _ _ _ _ _ _ _ _ _ _ _ _ _ _ _ _ _ _ _ _ _ _ _ _ _ _ _ _ _ _ _ _ _ _ _ _ _ _ _ _ _ _ _ _ _ _ _ _ _ _ _ _ _ _ _ _ _ _ _ _ _ _ _ _ _ _ _ _ _ _ _ _ _ _ _ _ _ _ _ _ _ _ _ _ _ _ _ _ _ _ _ _ _ _ _ _ _ _ _ _ _ _ _ _ _ _ _ _ _ _ _ _ _ _ _ _ _ _ _ _ _ _ _ _ _ _ _ _ _ _ _ _ _ _ _ _ _ _ _ _ _ _ _ _ _ _ _ _ _ _ _ _ _ _ _ _ _ _ _ _ _ _ _ _ _ _ _ _ _ _ _ _ _ _ _ _ _ _ _ _ _ _ _ _ _ _ _ _ _ _ _ _ _ _ _ _ _ _ _ _ _ _ _ _ _ _ _ _ _ _ _ _ _ _ _ _ _ _ _ _ _ _
end Go.Proofs.Ytpnbaapjjchlbaa
