/- Chapter 12, the reference's All, part 4: walked. -/
import Derived.Test.YtpnbaapjjchlbaaRefAll5
namespace Go.Proofs.Ytpnbaapjjchlbaa
open Go Go.RowKit Go.Cit

def ra31 (x y : Reg) (_ _ : Nat) (b g1 g2 g3 : Bool) : Nat → Value
  | 172 => (.bool b)
  | 173 => (.bool b)
  | 174 => (bif (!b) then (.agg #[.int .i64 x.base.1, .int .i64 x.size.1]) else undef)
  | 175 => (bif (!b) then (.bool g1) else undef)
  | 176 => (bif (!b) then (.bool g1) else undef)
  | 177 => (bif ((!b) && g1) then (.agg #[.int .i64 y.base.1, .int .i64 y.size.1]) else undef)
  | 178 => (bif ((!b) && g1) then (.bool g2) else undef)
  | 179 => (bif (!b) then (.bool (g1 && g2)) else undef)
  | 180 => (bif (!b) then (.bool (g1 && g2)) else undef)
  | 181 => (bif ((!b) && (g1 && g2)) then (.agg #[.int .i64 x.base.1, .int .i64 x.size.1]) else undef)
  | 182 => (bif ((!b) && (g1 && g2)) then (.agg #[.int .i64 y.base.1, .int .i64 y.size.1]) else undef)
  | 183 => (bif ((!b) && (g1 && g2)) then (.bool g3) else undef)
  | 184 => (bif ((!b) && (g1 && g2)) then (.bool (!g3)) else undef)
  | 185 => (bif (!b) then (.bool ((g1 && g2) && (!g3))) else undef)
  | 186 => (.bool (b || ((g1 && g2) && (!g3))))
  | 4 => (.bool (b || ((g1 && g2) && (!g3))))
  | _ => undef
def ra31o (_ _ : Reg) (p1 p2 : Nat) (b _ _ _ : Bool) : Nat → Value
  | 4 => (.bool b)
  | 10 => (.pointer (some ⟨p1, 0, none⟩))
  | 11 => (.pointer (some ⟨p2, 0, none⟩))
  | _ => undef
set_option maxRecDepth 100000 in
set_option maxHeartbeats 8000000 in
theorem sec4 (w w0 wc : World) (V : CfgV) (R : List Int) (HR : Hid (R = errs V)) (HV : Hid (V.At w0)) (HI : Hid (InBox w0 w.heap.size V)) (HB0 : Hid (Below w.heap.size w w0)) (hl1 : V.ws.length ≤ 9223372036854775807) (hl2 : V.ps.length ≤ 9223372036854775807) (hl3 : V.cs.length ≤ 9223372036854775807)
    (a : Option Addr) (L : List Int) (c : Nat) (HL : Hid (L = errsTo V 3)) (HLL : Hid (L.length ≤ 3)) (hO : VOwn cZ 1 3 w0.heap.size wc a L c) (hB : Below w0.heap.size w0 wc) (x0 x2 x4 x5 x6 x7 x8 x9 x10 x11 x12 x13 x14 x15 x16 x17 x18 x19 x20 x21 x22 x23 x24 x25 x26 x27 x28 x29 x30 x31 x32 x33 x34 x35 x36 x37 x38 x39 x40 x41 x42 x43 x44 x45 x46 x47 x48 x49 x50 x51 x52 x53 x54 x55 x56 x57 x58 x59 x60 x61 x62 x63 x64 x65 x66 x67 x68 x69 x70 x71 x72 x73 x74 x75 x76 x77 x78 x79 x80 x81 x82 x83 x84 x85 x86 x87 x88 x89 x90 x91 x92 x93 x94 x95 x96 x97 x98 x99 x100 x101 x102 x103 x104 x105 x106 x107 x108 x109 x110 x111 x112 x113 x114 x115 x116 x117 x118 x119 x120 x121 x122 x123 x124 x125 x126 x127 x128 x129 x130 x131 x132 x133 x134 x135 x136 x137 x138 x139 x140 x141 x142 x143 x144 x145 x146 x147 x148 x149 x150 x151 x152 x153 x154 x155 x156 x157 x158 x159 x160 x161 x162 x163 x164 x165 x166 x167 x168 x169 x170 x171 x172 x173 x174 x175 x176 x177 x178 x179 x180 x181 x182 x183 x184 x185 x186 x187 x188 x189 x190 x191 x192 x193 x194 x195 x196 x197 x198 x199 x200 x201 x202 x203 x204 x205 x206 x207 x208 x209 x210 x211 x212 x213 x214 x215 x216 x217 x218 x219 x220 x221 x222 x223 x224 x225 x226 x227 x228 x229 x230 x231 x232 x233 x234 x235 : Value) :
    Code.wp Try.prog (restC 11 (bodyC Try.f21)) (bodyPost Try.prog Try.f21 (fun e w' => ∃ a c, e = .returned (.slice a R.length c) ∧ VOwn cZ 1 3 w.heap.size w' a R c ∧ Below w.heap.size w w')) ⟨#[x0, .pointer (some ⟨w.heap.size, 0, none⟩), x2, .slice a L.length c, x4, x5, x6, x7, x8, x9, x10, x11, x12, x13, x14, x15, x16, x17, x18, x19, x20, x21, x22, x23, x24, x25, x26, x27, x28, x29, x30, x31, x32, x33, x34, x35, x36, x37, x38, x39, x40, x41, x42, x43, x44, x45, x46, x47, x48, x49, x50, x51, x52, x53, x54, x55, x56, x57, x58, x59, x60, x61, x62, x63, x64, x65, x66, x67, x68, x69, x70, x71, x72, x73, x74, x75, x76, x77, x78, x79, x80, x81, x82, x83, x84, x85, x86, x87, x88, x89, x90, x91, x92, x93, x94, x95, x96, x97, x98, x99, x100, x101, x102, x103, x104, x105, x106, x107, x108, x109, x110, x111, x112, x113, x114, x115, x116, x117, x118, x119, x120, x121, x122, x123, x124, x125, x126, x127, x128, x129, x130, x131, x132, x133, x134, x135, x136, x137, x138, x139, x140, x141, x142, x143, x144, x145, x146, x147, x148, x149, x150, x151, x152, x153, x154, x155, x156, x157, x158, x159, x160, x161, x162, x163, x164, x165, x166, x167, x168, x169, x170, x171, x172, x173, x174, x175, x176, x177, x178, x179, x180, x181, x182, x183, x184, x185, x186, x187, x188, x189, x190, x191, x192, x193, x194, x195, x196, x197, x198, x199, x200, x201, x202, x203, x204, x205, x206, x207, x208, x209, x210, x211, x212, x213, x214, x215, x216, x217, x218, x219, x220, x221, x222, x223, x224, x225, x226, x227, x228, x229, x230, x231, x232, x233, x234, x235], []⟩ wc := by
  conv in restC _ _ => whnf
  have HO := Lib.hid hO
  have HBB := Lib.hid hB
  obtain ⟨c0, c1, c2⟩ := HI.out.keep hB
  clear hO hB
  go_wp2_with fail
  go_loopw [4, 8] (fun b s wr => ∃ (k : Nat) (q : Bool), b = .bool q ∧ s = .int .i64 k ∧ k ≤ V.ps.length ∧ Hid (q = badTo V.ps k) ∧ Below wc.heap.size wc wr) (fun _ s _ => V.ps.length - (intOf s).toNat)
  case atStart => exact ⟨0, false, rfl, rfl, Nat.zero_le _, by rw [Hid]; simp [badTo], Below.refl _ _⟩
  case round =>
    obtain ⟨k, b, rfl, rfl, hk, Hb, B⟩ := hrel
    have HBw := Lib.hid (HBB.out.trans (B.mono HBB.out.size))
    obtain ⟨c0, c1, c2⟩ := HI.out.keep HBw.out
    by_cases hlt : k < V.ps.length
    · skip
      have HBk := Lib.hid B
      clear B
      go_wp2_with fail
      go_loopw [4, 9] (fun b s wr2 => ∃ (j : Nat) (q : Bool), b = .bool q ∧ s = .int .i64 j ∧ j ≤ k ∧ Hid (q = (badTo V.ps k || badRow V.ps k j)) ∧ Below wc.heap.size wc wr2) (fun _ s _ => k - (intOf s).toNat)
      case atStart => exact ⟨0, b, rfl, rfl, Nat.zero_le _, by rw [Hid, Hb.out]; simp [badRow], HBk.out⟩
      case round =>
        obtain ⟨j, b, rfl, rfl, hj, Hb, B⟩ := hrel
        have HBv := Lib.hid B
        have HBw := Lib.hid (HBB.out.trans (B.mono HBB.out.size))
        obtain ⟨c0, c1, c2⟩ := HI.out.keep HBw.out
        clear B
        by_cases hjl : j < k
        · have hjn : j < V.ps.length := by omega
          have i0 := HV.out.pts.index etP k hlt
          have i1 := HV.out.pts.index etP j hjn
          have u : ∀ q : After wr, _ := fun q => pts_cells HV.out.pts (HBw.out.trans (q.bel.mono HBw.out.size)) k hlt
          have v : ∀ q : After wr, _ := fun q => pts_cells HV.out.pts (HBw.out.trans (q.bel.mono HBw.out.size)) j hjn
          have HS := Lib.hid (badRow_succ V.ps k j)
          have hbA : Hid (badAt V.ps k j = (mayR V.ps[k].reg && (mayR V.ps[j].reg && !apartR V.ps[k].reg V.ps[j].reg))) := by
            rw [Hid, badAt, List.getElem?_eq_getElem hlt, List.getElem?_eq_getElem hjn]
          obtain ⟨x, hx⟩ : ∃ x : Reg, Hid (x = V.ps[k].reg) := ⟨V.ps[k].reg, rfl⟩
          obtain ⟨y, hy⟩ : ∃ y : Reg, Hid (y = V.ps[j].reg) := ⟨V.ps[j].reg, rfl⟩
          rw [← hx.out] at u hbA
          rw [← hy.out] at v hbA
          obtain ⟨g1, hg1⟩ : ∃ g, Hid (mayR x = g) := ⟨_, rfl⟩
          obtain ⟨g2, hg2⟩ : ∃ g, Hid (mayR y = g) := ⟨_, rfl⟩
          obtain ⟨g3, hg3⟩ : ∃ g, Hid (apartR x y = g) := ⟨_, rfl⟩
          obtain ⟨R, hR⟩ : ∃ R, Hid (R = (b || ((g1 && g2) && (!g3)))) := ⟨_, rfl⟩
          have HN : Hid (R = (badTo V.ps k || badRow V.ps k (j + 1))) := by
            rw [Hid, HS.out, hR.out, Hb.out, hbA.out, hg1.out, hg2.out, hg3.out]
            cases badTo V.ps k <;> cases badRow V.ps k j <;> cases g1 <;> cases g2 <;> cases g3 <;> rfl
          go_wp2_with fail
          refine wp_region_boxes r30B (r30X x y) (r30T V w.heap.size k j x y) (by kernel_rfl) (by kernel_rfl) (by kernel_rfl) (fun _ _ _ _ _ h => h) (fun _ _ _ _ _ h => h) ?_ ?_ (fun j hj => by
              rcases (show j = 0 ∨ j = 1 by have : j < 2 := hj; omega) with rfl | rfl <;> exact ⟨by decide, by decide⟩)
          · refine opsAll_cons ?_ (opsAll_cons ?_ (opsAll_cons ?_ (opsAll_cons ?_ (opsAll_cons ?_ (opsAll_cons ?_ (opsAll_cons ?_ (opsAll_cons ?_ (opsAll_cons ?_ (opsAll_cons ?_ (opsAll_cons ?_ (opsAll_cons ?_ (opsAll_cons ?_ (opsAll_cons ?_ (opsAll_cons ?_ (opsAll_cons ?_ opsAll_nil)))))))))))))))
            all_goals intro δ wa wx hk
            · exact .inl ⟨wanted_free rfl, ne30 (by decide) (by decide) (by decide) (by decide), gp_field (.tmp 1) rfl (hk.old 1 (by kernel_rfl)) (v := .pointer (some ⟨w.heap.size, 1, none⟩)) (fun w => by kernel_rfl) ⟨Below.refl _ _, rfl⟩⟩
            · exact .inl ⟨wanted_free rfl, ne30 (by decide) (by decide) (by decide) (by decide), gp_load (.tmp 160) rfl (hk.slot 160 (by kernel_rfl)) (load_at (fun w => by kernel_rfl) (keep hk.inv.1 c1)) ⟨Below.refl _ _, rfl⟩⟩
            · exact .inl ⟨wanted_free rfl, ne30 (by decide) (by decide) (by decide) (by decide), gp_move (.tmp 8) rfl ⟨Below.refl _ _, hk.old 8 (by kernel_rfl)⟩⟩
            · exact .inl ⟨wanted_free rfl, ne30 (by decide) (by decide) (by decide) (by decide), gp_index (.tmp 161) (.tmp 162) rfl (hk.slot 161 (by kernel_rfl)) (hk.slot 162 (by kernel_rfl)) (i0 wx) ⟨Below.refl _ _, rfl⟩⟩
            · exact .inl ⟨wanted_free rfl, ne30 (by decide) (by decide) (by decide) (by decide), gp_field (.tmp 163) rfl (hk.slot 163 (by kernel_rfl)) (v := .pointer (some ⟨(ad V.pa (k * 5)).block, (ad V.pa (k * 5)).off + 1, none⟩)) (fun w => by kernel_rfl) ⟨Below.refl _ _, rfl⟩⟩
            · exact .inl ⟨wanted_free rfl, ne30 (by decide) (by decide) (by decide) (by decide), gp_load (.tmp 164) rfl (hk.slot 164 (by kernel_rfl)) (load2 (fun w => by kernel_rfl) (fun w => by kernel_rfl) (u ⟨wx, hk.inv.1⟩).2.1 (u ⟨wx, hk.inv.1⟩).2.2.1) ⟨Below.refl _ _, rfl⟩⟩
            · exact .inl ⟨wanted_free rfl, ne30 (by decide) (by decide) (by decide) (by decide), gp_field (.tmp 1) rfl (hk.old 1 (by kernel_rfl)) (v := .pointer (some ⟨w.heap.size, 1, none⟩)) (fun w => by kernel_rfl) ⟨Below.refl _ _, rfl⟩⟩
            · exact .inl ⟨wanted_free rfl, ne30 (by decide) (by decide) (by decide) (by decide), gp_load (.tmp 166) rfl (hk.slot 166 (by kernel_rfl)) (load_at (fun w => by kernel_rfl) (keep hk.inv.1 c1)) ⟨Below.refl _ _, rfl⟩⟩
            · exact .inl ⟨wanted_free rfl, ne30 (by decide) (by decide) (by decide) (by decide), gp_move (.tmp 9) rfl ⟨Below.refl _ _, hk.old 9 (by kernel_rfl)⟩⟩
            · exact .inl ⟨wanted_free rfl, ne30 (by decide) (by decide) (by decide) (by decide), gp_index (.tmp 167) (.tmp 168) rfl (hk.slot 167 (by kernel_rfl)) (hk.slot 168 (by kernel_rfl)) (i1 wx) ⟨Below.refl _ _, rfl⟩⟩
            · exact .inl ⟨wanted_free rfl, ne30 (by decide) (by decide) (by decide) (by decide), gp_field (.tmp 169) rfl (hk.slot 169 (by kernel_rfl)) (v := .pointer (some ⟨(ad V.pa (j * 5)).block, (ad V.pa (j * 5)).off + 1, none⟩)) (fun w => by kernel_rfl) ⟨Below.refl _ _, rfl⟩⟩
            · exact .inl ⟨wanted_free rfl, ne30 (by decide) (by decide) (by decide) (by decide), gp_load (.tmp 170) rfl (hk.slot 170 (by kernel_rfl)) (load2 (fun w => by kernel_rfl) (fun w => by kernel_rfl) (v ⟨wx, hk.inv.1⟩).2.1 (v ⟨wx, hk.inv.1⟩).2.2.1) ⟨Below.refl _ _, rfl⟩⟩
            · exact .inr (.inl ⟨0, by decide, rfl, rfl, rfl, alloc30 _ _ _ rfl, fun _ _ => trivial⟩)
            · exact .inr (.inl ⟨1, by decide, rfl, rfl, rfl, alloc30 _ _ _ rfl, fun _ _ => trivial⟩)
            · exact .inr (.inr ⟨0, #[.int .i64 x.base.1, .int .i64 x.size.1], by decide, rfl, rfl, rfl, rfl, rfl, fun g D hg hD hDs => store30 _ _ _ _ _ rfl hg (hk.slot 165 (by kernel_rfl)) hD hDs⟩)
            · exact .inr (.inr ⟨1, #[.int .i64 y.base.1, .int .i64 y.size.1], by decide, rfl, rfl, rfl, rfl, rfl, fun g D hg hD hDs => store30 _ _ _ _ _ rfl hg (hk.slot 171 (by kernel_rfl)) hD hDs⟩)
          intro a wz hbz hsame hall hbox
          obtain ⟨p1, C1, e10, _, hC1, hX1, _⟩ := hbox 0 (by decide)
          obtain ⟨p2, C2, e11, _, hC2, hX2, _⟩ := hbox 1 (by decide)
          have hX1 : C1 = #[.int .i64 x.base.1, .int .i64 x.size.1] := hX1
          have hX2 : C2 = #[.int .i64 y.base.1, .int .i64 y.size.1] := hX2
          subst hX1 hX2
          have he := act_same hsame [160, 161, 162, 163, 164, 165, 166, 167, 168, 169, 170, 171, 10, 11] (by kernel_rfl)
          simp only [List.foldl_cons, List.foldl_nil] at he
          rw [show a.eval (.tmp 10) = _ from e10, show a.eval (.tmp 11) = _ from e11] at he
          generalize a.eval (.tmp 160) = x160 at he
          generalize a.eval (.tmp 161) = x161 at he
          generalize a.eval (.tmp 162) = x162 at he
          generalize a.eval (.tmp 163) = x163 at he
          generalize a.eval (.tmp 164) = x164 at he
          generalize a.eval (.tmp 165) = x165 at he
          generalize a.eval (.tmp 166) = x166 at he
          generalize a.eval (.tmp 167) = x167 at he
          generalize a.eval (.tmp 168) = x168 at he
          generalize a.eval (.tmp 169) = x169 at he
          generalize a.eval (.tmp 170) = x170 at he
          generalize a.eval (.tmp 171) = x171 at he
          simp only [put_lit] at he
          dsimp only [List.set_cons_zero, List.set_cons_succ] at he
          subst he
          have hc1 : Hid (wz.heap[p1]? = some (.cells #[.int .i64 x.base.1, .int .i64 x.size.1] 40 (0, 0))) := hC1
          have hc2 : Hid (wz.heap[p2]? = some (.cells #[.int .i64 y.base.1, .int .i64 y.size.1] 40 (0, 0))) := hC2
          have HBZ := Lib.hid (HBv.out.trans (hbz.mono HBv.out.size))
          clear hsame hall hbox hC1 hC2 e10 e11 hbz
          have d0 : ∀ q : After wz, q.to.cell? ⟨p1, 0, none⟩ = some (.int .i64 x.base.1) := fun q => After.cell (by rw [World.cell?, hc1.out]; rfl) q
          have d1 : ∀ q : After wz, q.to.cell? ⟨p1, 1, none⟩ = some (.int .i64 x.size.1) := fun q => After.cell (by rw [World.cell?, hc1.out]; rfl) q
          have d2 : ∀ q : After wz, q.to.cell? ⟨p2, 0, none⟩ = some (.int .i64 y.base.1) := fun q => After.cell (by rw [World.cell?, hc2.out]; rfl) q
          have d3 : ∀ q : After wz, q.to.cell? ⟨p2, 1, none⟩ = some (.int .i64 y.size.1) := fun q => After.cell (by rw [World.cell?, hc2.out]; rfl) q
          have HC1 : Hid (∀ q : After wz, Calls Try.prog 61 #[.agg #[.int .i64 x.base.1, .int .i64 x.size.1]] q.to fun e w' => e = .returned (.bool g1) ∧ Below q.to.heap.size q.to w') := fun q => by
            have := refrmay_calls q.to x
            rwa [hg1.out] at this
          have HC2 : Hid (∀ q : After wz, Calls Try.prog 61 #[.agg #[.int .i64 y.base.1, .int .i64 y.size.1]] q.to fun e w' => e = .returned (.bool g2) ∧ Below q.to.heap.size q.to w') := fun q => by
            have := refrmay_calls q.to y
            rwa [hg2.out] at this
          have HC3 : Hid (∀ q : After wz, Calls Try.prog 62 #[.agg #[.int .i64 x.base.1, .int .i64 x.size.1], .agg #[.int .i64 y.base.1, .int .i64 y.size.1]] q.to fun e w' => e = .returned (.bool g3) ∧ Below q.to.heap.size q.to w') := fun q => by
            have := refrapart_calls q.to x y
            rwa [hg3.out] at this
          go_upto_region 31 with fail
          refine wp_region_vals0 (ra31 x y p1 p2 b g1 g2 g3) (ra31o x y p1 p2 b g1 g2 g3) [4, 10, 11] (by kernel_rfl) ⟨rfl, rfl, rfl, trivial⟩ ?_ ?_
          · refine opsAll_cons ?_ (opsAll_cons ?_ (opsAll_cons ?_ (opsAll_cons ?_ (opsAll_cons ?_ (opsAll_cons ?_ (opsAll_cons ?_ (opsAll_cons ?_ (opsAll_cons ?_ (opsAll_cons ?_ (opsAll_cons ?_ (opsAll_cons ?_ (opsAll_cons ?_ (opsAll_cons ?_ (opsAll_cons ?_ (opsAll_cons ?_ opsAll_nil)))))))))))))))
            all_goals intro a hk
            · -- slot 172
              exact .inl ⟨wanted_free rfl, q_move (.tmp 4) rfl (show a.eval (.tmp 4) = (.bool b) from hk.old 4 (by kernel_rfl) (by kernel_rfl))⟩
            · -- slot 173
              exact .inl ⟨wanted_free rfl, q_move (.tmp 172) rfl (show a.eval (.tmp 172) = (.bool b) from hk.slot 172 (by kernel_rfl))⟩
            · -- slot 174
              cases b with
              | true =>
                exact .inr ⟨unwanted_by 173 false (by kernel_rfl) (show a.eval (.tmp 173) = (.bool true) from hk.slot 173 (by kernel_rfl)), rfl⟩
              | false =>
                exact .inl ⟨wanted_by 173 false (by kernel_rfl) (show a.eval (.tmp 173) = (.bool false) from hk.slot 173 (by kernel_rfl)), q_load (.tmp 10) rfl (show a.eval (.tmp 10) = (.pointer (some ⟨p1, 0, none⟩)) from hk.old 10 (by kernel_rfl) (by kernel_rfl)) (v := (.agg #[.int .i64 x.base.1, .int .i64 x.size.1])) (fun q => load2 (fun w => by kernel_rfl) (fun w => by kernel_rfl) (d0 q) (d1 q)) rfl⟩
            · -- slot 175
              cases b with
              | true =>
                exact .inr ⟨unwanted_by 173 false (by kernel_rfl) (show a.eval (.tmp 173) = (.bool true) from hk.slot 173 (by kernel_rfl)), rfl⟩
              | false =>
                exact .inl ⟨wanted_by 173 false (by kernel_rfl) (show a.eval (.tmp 173) = (.bool false) from hk.slot 173 (by kernel_rfl)), q_call rfl rfl #[(.agg #[.int .i64 x.base.1, .int .i64 x.size.1])] (fun w => by kernel_rfl) (by simp only [List.map_toArray, List.map_cons, List.map_nil, (show a.eval (.tmp 174) = (.agg #[.int .i64 x.base.1, .int .i64 x.size.1]) from hk.slot 174 (by kernel_rfl))]) (v := (.bool g1)) (fun q => HC1.out q) rfl⟩
            · -- slot 176
              cases b with
              | true =>
                exact .inr ⟨unwanted_by 173 false (by kernel_rfl) (show a.eval (.tmp 173) = (.bool true) from hk.slot 173 (by kernel_rfl)), rfl⟩
              | false =>
                exact .inl ⟨wanted_by 173 false (by kernel_rfl) (show a.eval (.tmp 173) = (.bool false) from hk.slot 173 (by kernel_rfl)), q_move (.tmp 175) rfl (show a.eval (.tmp 175) = (.bool g1) from hk.slot 175 (by kernel_rfl))⟩
            · -- slot 177
              cases b with
              | true =>
                exact .inr ⟨unwanted_undef 176 true (by kernel_rfl) (show a.eval (.tmp 176) = undef from hk.slot 176 (by kernel_rfl)), rfl⟩
              | false =>
                cases g1 with
                | true =>
                  exact .inl ⟨wanted_by 176 true (by kernel_rfl) (show a.eval (.tmp 176) = (.bool true) from hk.slot 176 (by kernel_rfl)), q_load (.tmp 11) rfl (show a.eval (.tmp 11) = (.pointer (some ⟨p2, 0, none⟩)) from hk.old 11 (by kernel_rfl) (by kernel_rfl)) (v := (.agg #[.int .i64 y.base.1, .int .i64 y.size.1])) (fun q => load2 (fun w => by kernel_rfl) (fun w => by kernel_rfl) (d2 q) (d3 q)) rfl⟩
                | false =>
                  exact .inr ⟨unwanted_by 176 true (by kernel_rfl) (show a.eval (.tmp 176) = (.bool false) from hk.slot 176 (by kernel_rfl)), rfl⟩
            · -- slot 178
              cases b with
              | true =>
                exact .inr ⟨unwanted_undef 176 true (by kernel_rfl) (show a.eval (.tmp 176) = undef from hk.slot 176 (by kernel_rfl)), rfl⟩
              | false =>
                cases g1 with
                | true =>
                  exact .inl ⟨wanted_by 176 true (by kernel_rfl) (show a.eval (.tmp 176) = (.bool true) from hk.slot 176 (by kernel_rfl)), q_call rfl rfl #[(.agg #[.int .i64 y.base.1, .int .i64 y.size.1])] (fun w => by kernel_rfl) (by simp only [List.map_toArray, List.map_cons, List.map_nil, (show a.eval (.tmp 177) = (.agg #[.int .i64 y.base.1, .int .i64 y.size.1]) from hk.slot 177 (by kernel_rfl))]) (v := (.bool g2)) (fun q => HC2.out q) rfl⟩
                | false =>
                  exact .inr ⟨unwanted_by 176 true (by kernel_rfl) (show a.eval (.tmp 176) = (.bool false) from hk.slot 176 (by kernel_rfl)), rfl⟩
            · -- slot 179
              cases b with
              | true =>
                exact .inr ⟨unwanted_by 173 false (by kernel_rfl) (show a.eval (.tmp 173) = (.bool true) from hk.slot 173 (by kernel_rfl)), rfl⟩
              | false =>
                cases g1 with
                | true =>
                  exact .inl ⟨wanted_by 173 false (by kernel_rfl) (show a.eval (.tmp 173) = (.bool false) from hk.slot 173 (by kernel_rfl)), q_pick rfl true (show a.eval (.tmp 176) = (.bool true) from hk.slot 176 (by kernel_rfl)) (show a.eval (.tmp 178) = (.bool g2) from hk.slot 178 (by kernel_rfl))⟩
                | false =>
                  exact .inl ⟨wanted_by 173 false (by kernel_rfl) (show a.eval (.tmp 173) = (.bool false) from hk.slot 173 (by kernel_rfl)), q_pick rfl false (show a.eval (.tmp 176) = (.bool false) from hk.slot 176 (by kernel_rfl)) rfl⟩
            · -- slot 180
              cases b with
              | true =>
                exact .inr ⟨unwanted_by 173 false (by kernel_rfl) (show a.eval (.tmp 173) = (.bool true) from hk.slot 173 (by kernel_rfl)), rfl⟩
              | false =>
                exact .inl ⟨wanted_by 173 false (by kernel_rfl) (show a.eval (.tmp 173) = (.bool false) from hk.slot 173 (by kernel_rfl)), q_move (.tmp 179) rfl (show a.eval (.tmp 179) = (.bool (g1 && g2)) from hk.slot 179 (by kernel_rfl))⟩
            · -- slot 181
              cases b with
              | true =>
                exact .inr ⟨unwanted_undef 180 true (by kernel_rfl) (show a.eval (.tmp 180) = undef from hk.slot 180 (by kernel_rfl)), rfl⟩
              | false =>
                cases g1 with
                | true =>
                  cases g2 with
                  | true =>
                    exact .inl ⟨wanted_by 180 true (by kernel_rfl) (show a.eval (.tmp 180) = (.bool (true && true)) from hk.slot 180 (by kernel_rfl)), q_load (.tmp 10) rfl (show a.eval (.tmp 10) = (.pointer (some ⟨p1, 0, none⟩)) from hk.old 10 (by kernel_rfl) (by kernel_rfl)) (v := (.agg #[.int .i64 x.base.1, .int .i64 x.size.1])) (fun q => load2 (fun w => by kernel_rfl) (fun w => by kernel_rfl) (d0 q) (d1 q)) rfl⟩
                  | false =>
                    exact .inr ⟨unwanted_by 180 true (by kernel_rfl) (show a.eval (.tmp 180) = (.bool (true && false)) from hk.slot 180 (by kernel_rfl)), rfl⟩
                | false =>
                  exact .inr ⟨unwanted_by 180 true (by kernel_rfl) (show a.eval (.tmp 180) = (.bool (false && g2)) from hk.slot 180 (by kernel_rfl)), rfl⟩
            · -- slot 182
              cases b with
              | true =>
                exact .inr ⟨unwanted_undef 180 true (by kernel_rfl) (show a.eval (.tmp 180) = undef from hk.slot 180 (by kernel_rfl)), rfl⟩
              | false =>
                cases g1 with
                | true =>
                  cases g2 with
                  | true =>
                    exact .inl ⟨wanted_by 180 true (by kernel_rfl) (show a.eval (.tmp 180) = (.bool (true && true)) from hk.slot 180 (by kernel_rfl)), q_load (.tmp 11) rfl (show a.eval (.tmp 11) = (.pointer (some ⟨p2, 0, none⟩)) from hk.old 11 (by kernel_rfl) (by kernel_rfl)) (v := (.agg #[.int .i64 y.base.1, .int .i64 y.size.1])) (fun q => load2 (fun w => by kernel_rfl) (fun w => by kernel_rfl) (d2 q) (d3 q)) rfl⟩
                  | false =>
                    exact .inr ⟨unwanted_by 180 true (by kernel_rfl) (show a.eval (.tmp 180) = (.bool (true && false)) from hk.slot 180 (by kernel_rfl)), rfl⟩
                | false =>
                  exact .inr ⟨unwanted_by 180 true (by kernel_rfl) (show a.eval (.tmp 180) = (.bool (false && g2)) from hk.slot 180 (by kernel_rfl)), rfl⟩
            · -- slot 183
              cases b with
              | true =>
                exact .inr ⟨unwanted_undef 180 true (by kernel_rfl) (show a.eval (.tmp 180) = undef from hk.slot 180 (by kernel_rfl)), rfl⟩
              | false =>
                cases g1 with
                | true =>
                  cases g2 with
                  | true =>
                    exact .inl ⟨wanted_by 180 true (by kernel_rfl) (show a.eval (.tmp 180) = (.bool (true && true)) from hk.slot 180 (by kernel_rfl)), q_call rfl rfl #[(.agg #[.int .i64 x.base.1, .int .i64 x.size.1]), (.agg #[.int .i64 y.base.1, .int .i64 y.size.1])] (fun w => by kernel_rfl) (by simp only [List.map_toArray, List.map_cons, List.map_nil, (show a.eval (.tmp 181) = (.agg #[.int .i64 x.base.1, .int .i64 x.size.1]) from hk.slot 181 (by kernel_rfl)), (show a.eval (.tmp 182) = (.agg #[.int .i64 y.base.1, .int .i64 y.size.1]) from hk.slot 182 (by kernel_rfl))]) (v := (.bool g3)) (fun q => HC3.out q) rfl⟩
                  | false =>
                    exact .inr ⟨unwanted_by 180 true (by kernel_rfl) (show a.eval (.tmp 180) = (.bool (true && false)) from hk.slot 180 (by kernel_rfl)), rfl⟩
                | false =>
                  exact .inr ⟨unwanted_by 180 true (by kernel_rfl) (show a.eval (.tmp 180) = (.bool (false && g2)) from hk.slot 180 (by kernel_rfl)), rfl⟩
            · -- slot 184
              cases b with
              | true =>
                exact .inr ⟨unwanted_undef 180 true (by kernel_rfl) (show a.eval (.tmp 180) = undef from hk.slot 180 (by kernel_rfl)), rfl⟩
              | false =>
                cases g1 with
                | true =>
                  cases g2 with
                  | true =>
                    exact .inl ⟨wanted_by 180 true (by kernel_rfl) (show a.eval (.tmp 180) = (.bool (true && true)) from hk.slot 180 (by kernel_rfl)), q_not rfl _ (show a.eval (.tmp 183) = (.bool g3) from hk.slot 183 (by kernel_rfl)) rfl⟩
                  | false =>
                    exact .inr ⟨unwanted_by 180 true (by kernel_rfl) (show a.eval (.tmp 180) = (.bool (true && false)) from hk.slot 180 (by kernel_rfl)), rfl⟩
                | false =>
                  exact .inr ⟨unwanted_by 180 true (by kernel_rfl) (show a.eval (.tmp 180) = (.bool (false && g2)) from hk.slot 180 (by kernel_rfl)), rfl⟩
            · -- slot 185
              cases b with
              | true =>
                exact .inr ⟨unwanted_by 173 false (by kernel_rfl) (show a.eval (.tmp 173) = (.bool true) from hk.slot 173 (by kernel_rfl)), rfl⟩
              | false =>
                cases g1 with
                | true =>
                  cases g2 with
                  | true =>
                    exact .inl ⟨wanted_by 173 false (by kernel_rfl) (show a.eval (.tmp 173) = (.bool false) from hk.slot 173 (by kernel_rfl)), q_pick rfl true (show a.eval (.tmp 180) = (.bool (true && true)) from hk.slot 180 (by kernel_rfl)) (show a.eval (.tmp 184) = (.bool (!g3)) from hk.slot 184 (by kernel_rfl))⟩
                  | false =>
                    exact .inl ⟨wanted_by 173 false (by kernel_rfl) (show a.eval (.tmp 173) = (.bool false) from hk.slot 173 (by kernel_rfl)), q_pick rfl false (show a.eval (.tmp 180) = (.bool (true && false)) from hk.slot 180 (by kernel_rfl)) rfl⟩
                | false =>
                  exact .inl ⟨wanted_by 173 false (by kernel_rfl) (show a.eval (.tmp 173) = (.bool false) from hk.slot 173 (by kernel_rfl)), q_pick rfl false (show a.eval (.tmp 180) = (.bool (false && g2)) from hk.slot 180 (by kernel_rfl)) rfl⟩
            · -- slot 186
              cases b with
              | true =>
                exact .inl ⟨wanted_free rfl, q_pick rfl true (show a.eval (.tmp 173) = (.bool true) from hk.slot 173 (by kernel_rfl)) rfl⟩
              | false =>
                exact .inl ⟨wanted_free rfl, q_pick rfl false (show a.eval (.tmp 173) = (.bool false) from hk.slot 173 (by kernel_rfl)) (show a.eval (.tmp 185) = (.bool ((g1 && g2) && (!g3))) from hk.slot 185 (by kernel_rfl))⟩
            · -- slot 4
              exact .inl ⟨wanted_free rfl, q_assign (.tmp 186) rfl (show a.eval (.tmp 186) = (.bool (b || ((g1 && g2) && (!g3)))) from hk.slot 186 (by kernel_rfl))⟩
          intro a ⟨w3, hb3⟩ hsame hall
          have he := act_same hsame [172, 173, 174, 175, 176, 177, 178, 179, 180, 181, 182, 183, 184, 185, 186, 4] (by kernel_rfl)
          simp only [List.foldl_cons, List.foldl_nil] at he
          rw [show a.eval (.tmp 4) = (.bool R) from (hall 4 (by kernel_rfl)).trans (congrArg Value.bool hR.out.symm)] at he
          generalize a.eval (.tmp 172) = x172 at he
          generalize a.eval (.tmp 173) = x173 at he
          generalize a.eval (.tmp 174) = x174 at he
          generalize a.eval (.tmp 175) = x175 at he
          generalize a.eval (.tmp 176) = x176 at he
          generalize a.eval (.tmp 177) = x177 at he
          generalize a.eval (.tmp 178) = x178 at he
          generalize a.eval (.tmp 179) = x179 at he
          generalize a.eval (.tmp 180) = x180 at he
          generalize a.eval (.tmp 181) = x181 at he
          generalize a.eval (.tmp 182) = x182 at he
          generalize a.eval (.tmp 183) = x183 at he
          generalize a.eval (.tmp 184) = x184 at he
          generalize a.eval (.tmp 185) = x185 at he
          generalize a.eval (.tmp 186) = x186 at he
          simp only [put_lit] at he
          dsimp only [List.set_cons_zero, List.set_cons_succ] at he
          subst he
          clear hsame hall
          go_wp2_with fail
          go_roundw
          case rel => exact ⟨j + 1, R, rfl, by go_num, by omega, HN.out, HBZ.out.trans (hb3.mono HBZ.out.size)⟩
          case measure => simp [intOf]; omega
        · have hj2 : j = k := by omega
          have HN : Hid (b = badTo V.ps (k + 1)) := by rw [Hid, Hb.out, hj2, badTo_succ]
          go_wp2_with fail
          go_roundw
          case rel => exact ⟨k + 1, b, rfl, by go_num, by omega, HN.out, HBv.out⟩
          case measure => simp [intOf]; omega
    · have hk2 : k = V.ps.length := by omega
      have Hb : Hid (b = overlapBad V.ps) := by rw [Hid, Hb.out, hk2, badTo_eq]
      have HO := Lib.hid (HO.out.stay B)
      have HBB := Lib.hid HBw.out
      clear hk2
      go_upto_if 187 with fail
      go_cut [3] (fun s3 wx => ∃ (a : Option Addr) (L : List Int) (c : Nat), s3 = .slice a L.length c ∧ Hid (L = errsTo V 4) ∧ Hid (L.length ≤ 4) ∧ VOwn cZ 1 3 w0.heap.size wx a L c ∧ Below w0.heap.size w0 wx)
      case first =>
        have HT := Lib.hid (errsTo_succ V 3 (show 3 < 5 by decide))
        cases b with
        | true =>
          have HL2 : Hid (L ++ [(121 : Int)] = errsTo V 4) := by rw [Hid, HT.out, ← HL.out]; simp [bads, ← Hb.out]
          go_wp2_with ((with_reducible refine wpList_vapp1 (o := ⟨some 190, .call _, _, _, _, _⟩) etI cZ_len cZ_one (y := 121) (.tmp 188) (.tmp 189) (by with_unfolding_all rfl) (by with_unfolding_all rfl) HO.out (by with_unfolding_all rfl) (by have := HLL.out; omega) HBB.out.size (by with_unfolding_all rfl) (by with_unfolding_all rfl) ?_); intro a4 c4 w4 hO4 hg4 hn4; have HO4 := Lib.hid hO4; have HB4 := Lib.hid (HBB.out.trans (HO.out.grown hg4 HBB.out.size)); clear hO4 hg4 hn4)
          go_meet
          exact ⟨a4, L ++ [121], c4, by simp, HL2.out, by have := HLL.out; rw [Hid, List.length_append, List.length_singleton]; omega, HO4.out, HB4.out⟩
        | false =>
          have HL2 : Hid (L = errsTo V 4) := by rw [Hid, HT.out, ← HL.out]; simp [bads, ← Hb.out]
          go_wp2_with fail
          go_meet
          exact ⟨a, L, c, rfl, HL2.out, by have := HLL.out; rw [Hid]; omega, HO.out, HBB.out⟩
      case rest =>
        obtain ⟨a, L, c, rfl, HL, HLL, hO, hB⟩ := hcut
        clear Hb
        go_step
        exact sec5 w w0 wc V R HR HV HI HB0 hl1 hl2 hl3 a L c HL HLL hO hB _ _ _ _ _ _ _ _ _ _ _ _ _ _ _ _ _ _ _ _ _ _ _ _ _ _ _ _ _ _ _ _ _ _ _ _ _ _ _ _ _ _ _ _ _ _ _ _ _ _ _ _ _ _ _ _ _ _ _ _ _ _ _ _ _ _ _ _ _ _ _ _ _ _ _ _ _ _ _ _ _ _ _ _ _ _ _ _ _ _ _ _ _ _ _ _ _ _ _ _ _ _ _ _ _ _ _ _ _ _ _ _ _ _ _ _ _ _ _ _ _ _ _ _ _ _ _ _ _ _ _ _ _ _ _ _ _ _ _ _ _ _ _ _ _ _ _ _ _ _ _ _ _ _ _ _ _ _ _ _ _ _ _ _ _ _ _ _ _ _ _ _ _ _ _ _ _ _ _ _ _ _ _ _ _ _ _ _ _ _ _ _ _ _ _ _ _ _ _ _ _ _ _ _ _ _ _ _ _ _ _ _ _ _ _ _ _ _ _ _ _ _ _ _ _ _ _ _ _ _ _ _ _ _
end Go.Proofs.Ytpnbaapjjchlbaa
