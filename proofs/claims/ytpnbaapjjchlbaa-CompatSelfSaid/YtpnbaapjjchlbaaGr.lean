/- Texts of the proof, one behind the other: RefAll0, RefAll6, RefAll5, RefAll4, RefAll3, RefAll2, RefAll. No condition but those that each names. -/
import Derived.Test.YtpnbaapjjchlbaaIs12
import Derived.Test.YtpnbaapjjchlbaaGp
import Derived.Test.YtpnbaapjjchlbaaVals
import Derived.Deep.CutBlock
import Derived.Deep.DeepCutAuto
/- The reference's All of chapter 12: walked. -/
namespace Go.Proofs.Ytpnbaapjjchlbaa
open Go Go.RowKit Go.Cit

/-- What stands behind the first n parts. -/
def restC : Nat → Code → Code
  | 0, c => c
  | n + 1, .seq _ b => restC n b
  | _, c => c
def bodyC (f : Func) : Code := match f.body with | some c => c | none => .skip
def r30B : Boxes := ⟨2, fun j => if j = 0 then 12 else 13, fun j => if j = 0 then 14 else 15, fun j => if j = 0 then 10 else 11, fun _ => 40, fun _ => #[.int .i64 0, .int .i64 0]⟩
def r30X (x y : Reg) (j : Nat) (C : Array Value) (_ : World) : Prop := C = if j = 0 then #[.int .i64 x.base.1, .int .i64 x.size.1] else #[.int .i64 y.base.1, .int .i64 y.size.1]
def r30T (V : CfgV) (B k j : Nat) (x y : Reg) (d : Nat) (v : Value) (_ : World) : Prop := match d with
  | 160 => v = .pointer (some ⟨B, 1, none⟩)
  | 161 => v = .slice V.pa V.ps.length V.pc
  | 162 => v = .int .i64 (k : Int)
  | 163 => v = .pointer (some (ad V.pa (k * 5)))
  | 164 => v = .pointer (some ⟨(ad V.pa (k * 5)).block, (ad V.pa (k * 5)).off + 1, none⟩)
  | 165 => v = .agg #[.int .i64 x.base.1, .int .i64 x.size.1]
  | 166 => v = .pointer (some ⟨B, 1, none⟩)
  | 167 => v = .slice V.pa V.ps.length V.pc
  | 168 => v = .int .i64 (j : Int)
  | 169 => v = .pointer (some (ad V.pa (j * 5)))
  | 170 => v = .pointer (some ⟨(ad V.pa (j * 5)).block, (ad V.pa (j * 5)).off + 1, none⟩)
  | 171 => v = .agg #[.int .i64 y.base.1, .int .i64 y.size.1]
  | _ => True
theorem ne30 {n : Nat} {o : Option Nat} (h1 : n ≠ 12 ∧ n ≠ 13) (h2 : n ≠ 14 ∧ n ≠ 15) (h3 : o ≠ some 10) (h4 : o ≠ some 11) : ∀ j, j < r30B.nb → n ≠ r30B.ia j ∧ n ≠ r30B.is_ j ∧ o ≠ some (r30B.d j) := by
  intro j hj
  rcases (show j = 0 ∨ j = 1 by have : j < 2 := hj; omega) with rfl | rfl
  · exact ⟨h1.1, h2.1, h3⟩
  · exact ⟨h1.2, h2.2, h4⟩
theorem alloc30 (ρ : Operand → Value) (o : Oper) (w : World) (h : o.op = .alloc 40) : (execOp ρ o).run Try.prog w = .ok (.value (.pointer (some ⟨w.heap.size, 0, none⟩))) (w.alloc (.cells #[.int .i64 0, .int .i64 0] 40)) := by
  unfold execOp; rw [h]; kernel_rfl
theorem store30 (ρ : Operand → Value) (o : Oper) (wx : World) (p s : Operand) (h : o.op = .store 40 p s) {z : Reg} {g : Nat} {D : Array Value} (hg : ρ p = .pointer (some ⟨g, 0, none⟩)) (hs : ρ s = .agg #[.int .i64 z.base.1, .int .i64 z.size.1])
    (hD : wx.heap[g]? = some (.cells D 40 (0, 0))) (hDs : D.size = (#[.int .i64 z.base.1, .int .i64 z.size.1] : Array Value).size) :
    ∃ w', (execOp ρ o).run Try.prog wx = .ok .skip w' ∧ w'.heap[g]? = some (.cells #[.int .i64 z.base.1, .int .i64 z.size.1] 40 (0, 0)) ∧ Save (· ≠ g) wx w' := by
  have hr := run_storeVar_row (P := Try.prog) wx g 40 40 D #[.int .i64 z.base.1, .int .i64 z.size.1] hD (by kernel_rfl) hDs (by simp [Value.oneCell'])
  refine ⟨wx.setRow g #[.int .i64 z.base.1, .int .i64 z.size.1], ?_, setRow_same hD, setRow_save _ _ _⟩
  unfold execOp
  simp only [h, hg, hs, Sem.run_bind, Instr.storeAt, Instr.sureAddr, Sem.run_pure, Result.andThen, hr]
theorem fin12 {w w0 w' : World} {R L : List Int} {a : Option Addr} {c : Nat} (h : R = L) (hO : VOwn cZ 1 3 w0.heap.size w' a L c) (hb : Below w.heap.size w w') (hs : w.heap.size ≤ w0.heap.size) :
    ∃ a' c', Ending.returned (.slice a L.length c) = .returned (.slice a' R.length c') ∧ VOwn cZ 1 3 w.heap.size w' a' R c' ∧ Below w.heap.size w w' := by
  subst h
  exact ⟨a, c, rfl, hO.low hs, hb⟩
end Go.Proofs.Ytpnbaapjjchlbaa

/- Chapter 12, the reference's All, its end: walked. -/
namespace Go.Proofs.Ytpnbaapjjchlbaa
open Go Go.RowKit Go.Cit

set_option maxRecDepth 100000 in
set_option maxHeartbeats 8000000 in
theorem sec6 (w w0 wc : World) (V : CfgV) (R : List Int) (HR : Hid (R = errs V)) (HV : Hid (V.At w0)) (HI : Hid (InBox w0 w.heap.size V)) (HB0 : Hid (Below w.heap.size w w0)) (hl1 : V.ws.length ≤ 9223372036854775807) (hl2 : V.ps.length ≤ 9223372036854775807) (hl3 : V.cs.length ≤ 9223372036854775807)
    (a : Option Addr) (L : List Int) (c : Nat) (HL : Hid (L = errsTo V 5)) (HLL : Hid (L.length ≤ 5)) (hO : VOwn cZ 1 3 w0.heap.size wc a L c) (hB : Below w0.heap.size w0 wc) (x0 x2 x4 x5 x6 x7 x8 x9 x10 x11 x12 x13 x14 x15 x16 x17 x18 x19 x20 x21 x22 x23 x24 x25 x26 x27 x28 x29 x30 x31 x32 x33 x34 x35 x36 x37 x38 x39 x40 x41 x42 x43 x44 x45 x46 x47 x48 x49 x50 x51 x52 x53 x54 x55 x56 x57 x58 x59 x60 x61 x62 x63 x64 x65 x66 x67 x68 x69 x70 x71 x72 x73 x74 x75 x76 x77 x78 x79 x80 x81 x82 x83 x84 x85 x86 x87 x88 x89 x90 x91 x92 x93 x94 x95 x96 x97 x98 x99 x100 x101 x102 x103 x104 x105 x106 x107 x108 x109 x110 x111 x112 x113 x114 x115 x116 x117 x118 x119 x120 x121 x122 x123 x124 x125 x126 x127 x128 x129 x130 x131 x132 x133 x134 x135 x136 x137 x138 x139 x140 x141 x142 x143 x144 x145 x146 x147 x148 x149 x150 x151 x152 x153 x154 x155 x156 x157 x158 x159 x160 x161 x162 x163 x164 x165 x166 x167 x168 x169 x170 x171 x172 x173 x174 x175 x176 x177 x178 x179 x180 x181 x182 x183 x184 x185 x186 x187 x188 x189 x190 x191 x192 x193 x194 x195 x196 x197 x198 x199 x200 x201 x202 x203 x204 x205 x206 x207 x208 x209 x210 x211 x212 x213 x214 x215 x216 x217 x218 x219 x220 x221 x222 x223 x224 x225 x226 x227 x228 x229 x230 x231 x232 x233 x234 x235 : Value) :
    Code.wp Try.prog (restC 17 (bodyC Try.f21)) (bodyPost Try.prog Try.f21 (fun e w' => ∃ a c, e = .returned (.slice a R.length c) ∧ VOwn cZ 1 3 w.heap.size w' a R c ∧ Below w.heap.size w w')) ⟨#[x0, .pointer (some ⟨w.heap.size, 0, none⟩), x2, .slice a L.length c, x4, x5, x6, x7, x8, x9, x10, x11, x12, x13, x14, x15, x16, x17, x18, x19, x20, x21, x22, x23, x24, x25, x26, x27, x28, x29, x30, x31, x32, x33, x34, x35, x36, x37, x38, x39, x40, x41, x42, x43, x44, x45, x46, x47, x48, x49, x50, x51, x52, x53, x54, x55, x56, x57, x58, x59, x60, x61, x62, x63, x64, x65, x66, x67, x68, x69, x70, x71, x72, x73, x74, x75, x76, x77, x78, x79, x80, x81, x82, x83, x84, x85, x86, x87, x88, x89, x90, x91, x92, x93, x94, x95, x96, x97, x98, x99, x100, x101, x102, x103, x104, x105, x106, x107, x108, x109, x110, x111, x112, x113, x114, x115, x116, x117, x118, x119, x120, x121, x122, x123, x124, x125, x126, x127, x128, x129, x130, x131, x132, x133, x134, x135, x136, x137, x138, x139, x140, x141, x142, x143, x144, x145, x146, x147, x148, x149, x150, x151, x152, x153, x154, x155, x156, x157, x158, x159, x160, x161, x162, x163, x164, x165, x166, x167, x168, x169, x170, x171, x172, x173, x174, x175, x176, x177, x178, x179, x180, x181, x182, x183, x184, x185, x186, x187, x188, x189, x190, x191, x192, x193, x194, x195, x196, x197, x198, x199, x200, x201, x202, x203, x204, x205, x206, x207, x208, x209, x210, x211, x212, x213, x214, x215, x216, x217, x218, x219, x220, x221, x222, x223, x224, x225, x226, x227, x228, x229, x230, x231, x232, x233, x234, x235], []⟩ wc := by
  conv in restC _ _ => whnf
  have HF := Lib.hid (And.intro (HR.out.trans HL.out.symm) (And.intro hO hB))
  clear hO hB
  go_wp2_with fail
  go_ret
  exact fin12 HF.out.1 HF.out.2.1 (HB0.out.trans (HF.out.2.2.mono HB0.out.size)) (HB0.out.size)
end Go.Proofs.Ytpnbaapjjchlbaa

/- Chapter 12, the reference's All, part 5: walked. -/
namespace Go.Proofs.Ytpnbaapjjchlbaa
open Go Go.RowKit Go.Cit

def ra34 (V : CfgV) (B : Nat) (z : Int) (g1 g2 : Bool) : Nat → Value
  | 191 => (.pointer (some ⟨B, 2, none⟩))
  | 192 => (.slice V.ca V.cs.length V.cc)
  | 193 => (.int .i64 (V.cs.length : Int))
  | 194 => (.bool g1)
  | 195 => (.bool g1)
  | 196 => (bif (!g1) then (.pointer (some ⟨B, 2, none⟩)) else undef)
  | 197 => (bif (!g1) then (.slice V.ca V.cs.length V.cc) else undef)
  | 198 => (bif (!g1) then (.int .i64 z) else undef)
  | 199 => (bif (!g1) then (.bool g2) else undef)
  | 200 => (.bool (g1 || g2))
  | 4 => (.bool (g1 || g2))
  | _ => undef
def ra34o (_ : CfgV) (B : Nat) (_ : Int) (_ _ : Bool) : Nat → Value
  | 1 => (.pointer (some ⟨B, 0, none⟩))
  | _ => undef
def ra38 (V : CfgV) (B k : Nat) (x : Ch) (b h1 h2 : Bool) : Nat → Value
  | 208 => (.bool b)
  | 209 => (.bool b)
  | 210 => (bif (!b) then (.agg #[.slice V.wa V.ws.length V.wc, .slice V.pa V.ps.length V.pc, .slice V.ca V.cs.length V.cc]) else undef)
  | 211 => (bif (!b) then (.pointer (some ⟨B, 2, none⟩)) else undef)
  | 212 => (bif (!b) then (.slice V.ca V.cs.length V.cc) else undef)
  | 213 => (bif (!b) then (.int .i64 (k : Int)) else undef)
  | 214 => (bif (!b) then (.pointer (some (ad V.ca (k * 5)))) else undef)
  | 215 => (bif (!b) then (.pointer (some ⟨(ad V.ca (k * 5)).block, (ad V.ca (k * 5)).off + 1, none⟩)) else undef)
  | 216 => (bif (!b) then (.int .i64 x.src.1) else undef)
  | 217 => (bif (!b) then (.bool h1) else undef)
  | 218 => (bif (!b) then (.bool (!h1)) else undef)
  | 219 => (.bool (b || (!h1)))
  | 220 => (.bool (b || (!h1)))
  | 221 => (bif (!(b || (!h1))) then (.agg #[.slice V.wa V.ws.length V.wc, .slice V.pa V.ps.length V.pc, .slice V.ca V.cs.length V.cc]) else undef)
  | 222 => (bif (!(b || (!h1))) then (.pointer (some ⟨B, 2, none⟩)) else undef)
  | 223 => (bif (!(b || (!h1))) then (.slice V.ca V.cs.length V.cc) else undef)
  | 224 => (bif (!(b || (!h1))) then (.int .i64 (k : Int)) else undef)
  | 225 => (bif (!(b || (!h1))) then (.pointer (some (ad V.ca (k * 5)))) else undef)
  | 226 => (bif (!(b || (!h1))) then (.pointer (some ⟨(ad V.ca (k * 5)).block, (ad V.ca (k * 5)).off + 2, none⟩)) else undef)
  | 227 => (bif (!(b || (!h1))) then (.int .i64 x.dst.1) else undef)
  | 228 => (bif (!(b || (!h1))) then (.bool h2) else undef)
  | 229 => (bif (!(b || (!h1))) then (.bool (!h2)) else undef)
  | 230 => (.bool ((b || (!h1)) || (!h2)))
  | 4 => (.bool ((b || (!h1)) || (!h2)))
  | _ => undef
def ra38o (_ : CfgV) (B k : Nat) (_ : Ch) (b _ _ : Bool) : Nat → Value
  | 1 => (.pointer (some ⟨B, 0, none⟩))
  | 4 => (.bool b)
  | 12 => (.int .i64 (k : Int))
  | _ => undef
set_option maxRecDepth 100000 in
set_option maxHeartbeats 8000000 in
theorem sec5 (w w0 wc : World) (V : CfgV) (R : List Int) (HR : Hid (R = errs V)) (HV : Hid (V.At w0)) (HI : Hid (InBox w0 w.heap.size V)) (HB0 : Hid (Below w.heap.size w w0)) (hl1 : V.ws.length ≤ 9223372036854775807) (hl2 : V.ps.length ≤ 9223372036854775807) (hl3 : V.cs.length ≤ 9223372036854775807)
    (a : Option Addr) (L : List Int) (c : Nat) (HL : Hid (L = errsTo V 4)) (HLL : Hid (L.length ≤ 4)) (hO : VOwn cZ 1 3 w0.heap.size wc a L c) (hB : Below w0.heap.size w0 wc) (x0 x2 x4 x5 x6 x7 x8 x9 x10 x11 x12 x13 x14 x15 x16 x17 x18 x19 x20 x21 x22 x23 x24 x25 x26 x27 x28 x29 x30 x31 x32 x33 x34 x35 x36 x37 x38 x39 x40 x41 x42 x43 x44 x45 x46 x47 x48 x49 x50 x51 x52 x53 x54 x55 x56 x57 x58 x59 x60 x61 x62 x63 x64 x65 x66 x67 x68 x69 x70 x71 x72 x73 x74 x75 x76 x77 x78 x79 x80 x81 x82 x83 x84 x85 x86 x87 x88 x89 x90 x91 x92 x93 x94 x95 x96 x97 x98 x99 x100 x101 x102 x103 x104 x105 x106 x107 x108 x109 x110 x111 x112 x113 x114 x115 x116 x117 x118 x119 x120 x121 x122 x123 x124 x125 x126 x127 x128 x129 x130 x131 x132 x133 x134 x135 x136 x137 x138 x139 x140 x141 x142 x143 x144 x145 x146 x147 x148 x149 x150 x151 x152 x153 x154 x155 x156 x157 x158 x159 x160 x161 x162 x163 x164 x165 x166 x167 x168 x169 x170 x171 x172 x173 x174 x175 x176 x177 x178 x179 x180 x181 x182 x183 x184 x185 x186 x187 x188 x189 x190 x191 x192 x193 x194 x195 x196 x197 x198 x199 x200 x201 x202 x203 x204 x205 x206 x207 x208 x209 x210 x211 x212 x213 x214 x215 x216 x217 x218 x219 x220 x221 x222 x223 x224 x225 x226 x227 x228 x229 x230 x231 x232 x233 x234 x235 : Value) :
    Code.wp Try.prog (restC 14 (bodyC Try.f21)) (bodyPost Try.prog Try.f21 (fun e w' => ∃ a c, e = .returned (.slice a R.length c) ∧ VOwn cZ 1 3 w.heap.size w' a R c ∧ Below w.heap.size w w')) ⟨#[x0, .pointer (some ⟨w.heap.size, 0, none⟩), x2, .slice a L.length c, x4, x5, x6, x7, x8, x9, x10, x11, x12, x13, x14, x15, x16, x17, x18, x19, x20, x21, x22, x23, x24, x25, x26, x27, x28, x29, x30, x31, x32, x33, x34, x35, x36, x37, x38, x39, x40, x41, x42, x43, x44, x45, x46, x47, x48, x49, x50, x51, x52, x53, x54, x55, x56, x57, x58, x59, x60, x61, x62, x63, x64, x65, x66, x67, x68, x69, x70, x71, x72, x73, x74, x75, x76, x77, x78, x79, x80, x81, x82, x83, x84, x85, x86, x87, x88, x89, x90, x91, x92, x93, x94, x95, x96, x97, x98, x99, x100, x101, x102, x103, x104, x105, x106, x107, x108, x109, x110, x111, x112, x113, x114, x115, x116, x117, x118, x119, x120, x121, x122, x123, x124, x125, x126, x127, x128, x129, x130, x131, x132, x133, x134, x135, x136, x137, x138, x139, x140, x141, x142, x143, x144, x145, x146, x147, x148, x149, x150, x151, x152, x153, x154, x155, x156, x157, x158, x159, x160, x161, x162, x163, x164, x165, x166, x167, x168, x169, x170, x171, x172, x173, x174, x175, x176, x177, x178, x179, x180, x181, x182, x183, x184, x185, x186, x187, x188, x189, x190, x191, x192, x193, x194, x195, x196, x197, x198, x199, x200, x201, x202, x203, x204, x205, x206, x207, x208, x209, x210, x211, x212, x213, x214, x215, x216, x217, x218, x219, x220, x221, x222, x223, x224, x225, x226, x227, x228, x229, x230, x231, x232, x233, x234, x235], []⟩ wc := by
  conv in restC _ _ => whnf
  have HO := Lib.hid hO
  have HBB := Lib.hid hB
  obtain ⟨c0, c1, c2⟩ := HI.out.keep hB
  clear hO hB
  obtain ⟨g1, hg1⟩ : ∃ g, Hid (decide ((8 : Int) < (V.cs.length : Int)) = g) := ⟨_, rfl⟩
  obtain ⟨z, hz⟩ : ∃ z, Hid (chErr V.cs = z) := ⟨_, rfl⟩
  obtain ⟨g2, hg2⟩ : ∃ g, Hid (((z : Int) != 0) = g) := ⟨_, rfl⟩
  obtain ⟨bl, hR⟩ : ∃ bl, Hid (bl = (g1 || g2)) := ⟨_, rfl⟩
  have HC3 : Hid (∀ q : After wc, Calls Try.prog 63 #[.slice V.ca V.cs.length V.cc] q.to fun e w' => e = .returned (.int .i64 z) ∧ Below q.to.heap.size q.to w') := fun q => by
    have := refchall_calls q.to V.ca V.cs V.cc (HV.out.chs.stay cCh_len (HBB.out.trans (q.bel.mono HBB.out.size)))
    rwa [hz.out] at this
  go_upto_region 34 with fail
  refine wp_region_vals0 (ra34 V w.heap.size z g1 g2) (ra34o V w.heap.size z g1 g2) [1] (by kernel_rfl) ⟨rfl, trivial⟩ ?_ ?_
  · refine opsAll_cons ?_ (opsAll_cons ?_ (opsAll_cons ?_ (opsAll_cons ?_ (opsAll_cons ?_ (opsAll_cons ?_ (opsAll_cons ?_ (opsAll_cons ?_ (opsAll_cons ?_ (opsAll_cons ?_ (opsAll_cons ?_ opsAll_nil))))))))))
    all_goals intro a hk
    · -- slot 191
      exact .inl ⟨wanted_free rfl, q_field (.tmp 1) rfl (show a.eval (.tmp 1) = (.pointer (some ⟨w.heap.size, 0, none⟩)) from hk.old 1 (by kernel_rfl) (by kernel_rfl)) (v := (.pointer (some ⟨w.heap.size, 2, none⟩))) (fun w => by kernel_rfl) rfl⟩
    · -- slot 192
      exact .inl ⟨wanted_free rfl, q_load (.tmp 191) rfl (show a.eval (.tmp 191) = (.pointer (some ⟨w.heap.size, 2, none⟩)) from hk.slot 191 (by kernel_rfl)) (v := (.slice V.ca V.cs.length V.cc)) (fun q => load_at (fun w => by kernel_rfl) (keep q.bel c2)) rfl⟩
    · -- slot 193
      exact .inl ⟨wanted_free rfl, q_len rfl (by kernel_rfl) (show a.eval (.tmp 192) = (.slice V.ca V.cs.length V.cc) from hk.slot 192 (by kernel_rfl)) rfl⟩
    · -- slot 194
      exact .inl ⟨wanted_free rfl, q_bin rfl (show a.eval (.tmp 193) = (.int .i64 (V.cs.length : Int)) from hk.slot 193 (by kernel_rfl)) rfl (v := .bool (decide ((8 : Int) < (V.cs.length : Int)))) (fun w => by kernel_rfl) (congrArg Value.bool (hg1.out))⟩
    · -- slot 195
      exact .inl ⟨wanted_free rfl, q_move (.tmp 194) rfl (show a.eval (.tmp 194) = (.bool g1) from hk.slot 194 (by kernel_rfl))⟩
    · -- slot 196
      cases g1 with
      | true =>
        exact .inr ⟨unwanted_by 195 false (by kernel_rfl) (show a.eval (.tmp 195) = (.bool true) from hk.slot 195 (by kernel_rfl)), rfl⟩
      | false =>
        exact .inl ⟨wanted_by 195 false (by kernel_rfl) (show a.eval (.tmp 195) = (.bool false) from hk.slot 195 (by kernel_rfl)), q_field (.tmp 1) rfl (show a.eval (.tmp 1) = (.pointer (some ⟨w.heap.size, 0, none⟩)) from hk.old 1 (by kernel_rfl) (by kernel_rfl)) (v := (.pointer (some ⟨w.heap.size, 2, none⟩))) (fun w => by kernel_rfl) rfl⟩
    · -- slot 197
      cases g1 with
      | true =>
        exact .inr ⟨unwanted_by 195 false (by kernel_rfl) (show a.eval (.tmp 195) = (.bool true) from hk.slot 195 (by kernel_rfl)), rfl⟩
      | false =>
        exact .inl ⟨wanted_by 195 false (by kernel_rfl) (show a.eval (.tmp 195) = (.bool false) from hk.slot 195 (by kernel_rfl)), q_load (.tmp 196) rfl (show a.eval (.tmp 196) = (.pointer (some ⟨w.heap.size, 2, none⟩)) from hk.slot 196 (by kernel_rfl)) (v := (.slice V.ca V.cs.length V.cc)) (fun q => load_at (fun w => by kernel_rfl) (keep q.bel c2)) rfl⟩
    · -- slot 198
      cases g1 with
      | true =>
        exact .inr ⟨unwanted_by 195 false (by kernel_rfl) (show a.eval (.tmp 195) = (.bool true) from hk.slot 195 (by kernel_rfl)), rfl⟩
      | false =>
        exact .inl ⟨wanted_by 195 false (by kernel_rfl) (show a.eval (.tmp 195) = (.bool false) from hk.slot 195 (by kernel_rfl)), q_call rfl rfl #[(.slice V.ca V.cs.length V.cc)] (fun w => by kernel_rfl) (by simp only [List.map_toArray, List.map_cons, List.map_nil, (show a.eval (.tmp 197) = (.slice V.ca V.cs.length V.cc) from hk.slot 197 (by kernel_rfl))]) (v := (.int .i64 z)) (fun q => HC3.out q) rfl⟩
    · -- slot 199
      cases g1 with
      | true =>
        exact .inr ⟨unwanted_by 195 false (by kernel_rfl) (show a.eval (.tmp 195) = (.bool true) from hk.slot 195 (by kernel_rfl)), rfl⟩
      | false =>
        exact .inl ⟨wanted_by 195 false (by kernel_rfl) (show a.eval (.tmp 195) = (.bool false) from hk.slot 195 (by kernel_rfl)), q_bin rfl (show a.eval (.tmp 198) = (.int .i64 z) from hk.slot 198 (by kernel_rfl)) rfl (v := .bool (((z : Int) != 0))) (fun w => by kernel_rfl) (congrArg Value.bool (hg2.out))⟩
    · -- slot 200
      cases g1 with
      | true =>
        exact .inl ⟨wanted_free rfl, q_pick rfl true (show a.eval (.tmp 195) = (.bool true) from hk.slot 195 (by kernel_rfl)) rfl⟩
      | false =>
        exact .inl ⟨wanted_free rfl, q_pick rfl false (show a.eval (.tmp 195) = (.bool false) from hk.slot 195 (by kernel_rfl)) (show a.eval (.tmp 199) = (.bool g2) from hk.slot 199 (by kernel_rfl))⟩
    · -- slot 4
      exact .inl ⟨wanted_free rfl, q_assign (.tmp 200) rfl (show a.eval (.tmp 200) = (.bool (g1 || g2)) from hk.slot 200 (by kernel_rfl))⟩
  intro a ⟨wd, hbd⟩ hsame hall
  have he := act_same hsame [191, 192, 193, 194, 195, 196, 197, 198, 199, 200, 4] (by kernel_rfl)
  simp only [List.foldl_cons, List.foldl_nil] at he
  rw [show a.eval (.tmp 4) = (.bool bl) from (hall 4 (by kernel_rfl)).trans (congrArg Value.bool hR.out.symm)] at he
  generalize a.eval (.tmp 191) = x191 at he
  generalize a.eval (.tmp 192) = x192 at he
  generalize a.eval (.tmp 193) = x193 at he
  generalize a.eval (.tmp 194) = x194 at he
  generalize a.eval (.tmp 195) = x195 at he
  generalize a.eval (.tmp 196) = x196 at he
  generalize a.eval (.tmp 197) = x197 at he
  generalize a.eval (.tmp 198) = x198 at he
  generalize a.eval (.tmp 199) = x199 at he
  generalize a.eval (.tmp 200) = x200 at he
  simp only [put_lit] at he
  dsimp only [List.set_cons_zero, List.set_cons_succ] at he
  subst he
  clear hsame hall
  go_wp2_with fail
  have HBB := Lib.hid (HBB.out.trans (hbd.mono HBB.out.size))
  have HO := Lib.hid (HO.out.stay hbd)
  obtain ⟨c0, c1, c2⟩ := HI.out.keep HBB.out
  clear hbd
  go_loopw [4, 12] (fun b s wr => ∃ (k : Nat) (q : Bool), b = .bool q ∧ s = .int .i64 k ∧ k ≤ V.cs.length ∧ Hid (q = (bl || (V.cs.take k).any (chBad V))) ∧ Below wd.heap.size wd wr) (fun _ s _ => V.cs.length - (intOf s).toNat)
  case atStart => exact ⟨0, bl, rfl, rfl, Nat.zero_le _, by rw [Hid]; simp, Below.refl _ _⟩
  case round =>
    obtain ⟨k, b, rfl, rfl, hk, Hb, B⟩ := hrel
    have HBw := Lib.hid (HBB.out.trans (B.mono HBB.out.size))
    obtain ⟨c0, c1, c2⟩ := HI.out.keep HBw.out
    by_cases hlt : k < V.cs.length
    · skip
      have i0 := HV.out.chs.index etC k hlt
      have u1 : ∀ q : After wr, _ := fun q => (HV.out.chs.stay cCh_len (HBw.out.trans (q.bel.mono HBw.out.size))).field k hlt 1 (by decide) rfl
      have u2 : ∀ q : After wr, _ := fun q => (HV.out.chs.stay cCh_len (HBw.out.trans (q.bel.mono HBw.out.size))).field k hlt 2 (by decide) rfl
      have HBk := Lib.hid B
      have HS := Lib.hid (any_take (chBad V) V.cs k hlt)
      clear B
      obtain ⟨x, hx⟩ : ∃ x : Ch, Hid (x = V.cs[k]) := ⟨V.cs[k], rfl⟩
      rw [← hx.out] at u1 u2 HS
      obtain ⟨h1, hh1⟩ : ∃ g, Hid (hasP V.ps x.src.1 = g) := ⟨_, rfl⟩
      obtain ⟨h2, hh2⟩ : ∃ g, Hid (hasP V.ps x.dst.1 = g) := ⟨_, rfl⟩
      have HC1 : Hid (∀ q : After wr, Calls Try.prog 60 #[.agg #[.slice V.wa V.ws.length V.wc, .slice V.pa V.ps.length V.pc, .slice V.ca V.cs.length V.cc], .int .i64 x.src.1] q.to fun e w' => e = .returned (.bool h1) ∧ Below q.to.heap.size q.to w') := fun q => by
        have := refhas_calls q.to V (HV.out.stay (HBw.out.trans (q.bel.mono HBw.out.size))) x.src.1
        rwa [hh1.out] at this
      have HC2 : Hid (∀ q : After wr, Calls Try.prog 60 #[.agg #[.slice V.wa V.ws.length V.wc, .slice V.pa V.ps.length V.pc, .slice V.ca V.cs.length V.cc], .int .i64 x.dst.1] q.to fun e w' => e = .returned (.bool h2) ∧ Below q.to.heap.size q.to w') := fun q => by
        have := refhas_calls q.to V (HV.out.stay (HBw.out.trans (q.bel.mono HBw.out.size))) x.dst.1
        rwa [hh2.out] at this
      obtain ⟨R, hR⟩ : ∃ R, Hid (R = ((b || (!h1)) || (!h2))) := ⟨_, rfl⟩
      have HN : Hid (R = (bl || (V.cs.take (k + 1)).any (chBad V))) := by
        have e : chBad V x = ((!h1) || (!h2)) := by unfold chBad; rw [hh1.out, hh2.out]
        rw [Hid, HS.out, hR.out, Hb.out, e]
        cases bl <;> cases (V.cs.take k).any (chBad V) <;> cases h1 <;> cases h2 <;> rfl
      go_wp2_with fail
      refine wp_region_vals (ra38 V w.heap.size k x b h1 h2) (ra38o V w.heap.size k x b h1 h2) [1, 4, 12] (by kernel_rfl) (by kernel_rfl) (by kernel_rfl) ⟨rfl, rfl, rfl, trivial⟩ ?_ ?_
      · refine opsAll_cons ?_ (opsAll_cons ?_ (opsAll_cons ?_ (opsAll_cons ?_ (opsAll_cons ?_ (opsAll_cons ?_ (opsAll_cons ?_ (opsAll_cons ?_ (opsAll_cons ?_ (opsAll_cons ?_ (opsAll_cons ?_ (opsAll_cons ?_ (opsAll_cons ?_ (opsAll_cons ?_ (opsAll_cons ?_ (opsAll_cons ?_ (opsAll_cons ?_ (opsAll_cons ?_ (opsAll_cons ?_ (opsAll_cons ?_ (opsAll_cons ?_ (opsAll_cons ?_ (opsAll_cons ?_ (opsAll_cons ?_ opsAll_nil)))))))))))))))))))))))
        all_goals intro a hk
        · -- slot 208
          exact .inl ⟨wanted_free rfl, q_move (.tmp 4) rfl (show a.eval (.tmp 4) = (.bool b) from hk.old 4 (by kernel_rfl) (by kernel_rfl))⟩
        · -- slot 209
          exact .inl ⟨wanted_free rfl, q_move (.tmp 208) rfl (show a.eval (.tmp 208) = (.bool b) from hk.slot 208 (by kernel_rfl))⟩
        · -- slot 210
          cases b with
          | true =>
            exact .inr ⟨unwanted_by 209 false (by kernel_rfl) (show a.eval (.tmp 209) = (.bool true) from hk.slot 209 (by kernel_rfl)), rfl⟩
          | false =>
            exact .inl ⟨wanted_by 209 false (by kernel_rfl) (show a.eval (.tmp 209) = (.bool false) from hk.slot 209 (by kernel_rfl)), q_load (.tmp 1) rfl (show a.eval (.tmp 1) = (.pointer (some ⟨w.heap.size, 0, none⟩)) from hk.old 1 (by kernel_rfl) (by kernel_rfl)) (v := (.agg #[.slice V.wa V.ws.length V.wc, .slice V.pa V.ps.length V.pc, .slice V.ca V.cs.length V.cc])) (fun q => load3 (fun w => by kernel_rfl) (fun w => by kernel_rfl) (keep q.bel c0) (keep q.bel c1) (keep q.bel c2)) rfl⟩
        · -- slot 211
          cases b with
          | true =>
            exact .inr ⟨unwanted_by 209 false (by kernel_rfl) (show a.eval (.tmp 209) = (.bool true) from hk.slot 209 (by kernel_rfl)), rfl⟩
          | false =>
            exact .inl ⟨wanted_by 209 false (by kernel_rfl) (show a.eval (.tmp 209) = (.bool false) from hk.slot 209 (by kernel_rfl)), q_field (.tmp 1) rfl (show a.eval (.tmp 1) = (.pointer (some ⟨w.heap.size, 0, none⟩)) from hk.old 1 (by kernel_rfl) (by kernel_rfl)) (v := (.pointer (some ⟨w.heap.size, 2, none⟩))) (fun w => by kernel_rfl) rfl⟩
        · -- slot 212
          cases b with
          | true =>
            exact .inr ⟨unwanted_by 209 false (by kernel_rfl) (show a.eval (.tmp 209) = (.bool true) from hk.slot 209 (by kernel_rfl)), rfl⟩
          | false =>
            exact .inl ⟨wanted_by 209 false (by kernel_rfl) (show a.eval (.tmp 209) = (.bool false) from hk.slot 209 (by kernel_rfl)), q_load (.tmp 211) rfl (show a.eval (.tmp 211) = (.pointer (some ⟨w.heap.size, 2, none⟩)) from hk.slot 211 (by kernel_rfl)) (v := (.slice V.ca V.cs.length V.cc)) (fun q => load_at (fun w => by kernel_rfl) (keep q.bel c2)) rfl⟩
        · -- slot 213
          cases b with
          | true =>
            exact .inr ⟨unwanted_by 209 false (by kernel_rfl) (show a.eval (.tmp 209) = (.bool true) from hk.slot 209 (by kernel_rfl)), rfl⟩
          | false =>
            exact .inl ⟨wanted_by 209 false (by kernel_rfl) (show a.eval (.tmp 209) = (.bool false) from hk.slot 209 (by kernel_rfl)), q_move (.tmp 12) rfl (show a.eval (.tmp 12) = (.int .i64 (k : Int)) from hk.old 12 (by kernel_rfl) (by kernel_rfl))⟩
        · -- slot 214
          cases b with
          | true =>
            exact .inr ⟨unwanted_by 209 false (by kernel_rfl) (show a.eval (.tmp 209) = (.bool true) from hk.slot 209 (by kernel_rfl)), rfl⟩
          | false =>
            exact .inl ⟨wanted_by 209 false (by kernel_rfl) (show a.eval (.tmp 209) = (.bool false) from hk.slot 209 (by kernel_rfl)), q_index (.tmp 212) (.tmp 213) rfl (show a.eval (.tmp 212) = (.slice V.ca V.cs.length V.cc) from hk.slot 212 (by kernel_rfl)) (show a.eval (.tmp 213) = (.int .i64 (k : Int)) from hk.slot 213 (by kernel_rfl)) (v := (.pointer (some (ad V.ca (k * 5))))) (fun w => i0 w) rfl⟩
        · -- slot 215
          cases b with
          | true =>
            exact .inr ⟨unwanted_by 209 false (by kernel_rfl) (show a.eval (.tmp 209) = (.bool true) from hk.slot 209 (by kernel_rfl)), rfl⟩
          | false =>
            exact .inl ⟨wanted_by 209 false (by kernel_rfl) (show a.eval (.tmp 209) = (.bool false) from hk.slot 209 (by kernel_rfl)), q_field (.tmp 214) rfl (show a.eval (.tmp 214) = (.pointer (some (ad V.ca (k * 5)))) from hk.slot 214 (by kernel_rfl)) (v := (.pointer (some ⟨(ad V.ca (k * 5)).block, (ad V.ca (k * 5)).off + 1, none⟩))) (fun w => by kernel_rfl) rfl⟩
        · -- slot 216
          cases b with
          | true =>
            exact .inr ⟨unwanted_by 209 false (by kernel_rfl) (show a.eval (.tmp 209) = (.bool true) from hk.slot 209 (by kernel_rfl)), rfl⟩
          | false =>
            exact .inl ⟨wanted_by 209 false (by kernel_rfl) (show a.eval (.tmp 209) = (.bool false) from hk.slot 209 (by kernel_rfl)), q_load (.tmp 215) rfl (show a.eval (.tmp 215) = (.pointer (some ⟨(ad V.ca (k * 5)).block, (ad V.ca (k * 5)).off + 1, none⟩)) from hk.slot 215 (by kernel_rfl)) (v := (.int .i64 x.src.1)) (fun q => load_at (fun w => by kernel_rfl) (u1 q)) rfl⟩
        · -- slot 217
          cases b with
          | true =>
            exact .inr ⟨unwanted_by 209 false (by kernel_rfl) (show a.eval (.tmp 209) = (.bool true) from hk.slot 209 (by kernel_rfl)), rfl⟩
          | false =>
            exact .inl ⟨wanted_by 209 false (by kernel_rfl) (show a.eval (.tmp 209) = (.bool false) from hk.slot 209 (by kernel_rfl)), q_call rfl rfl #[(.agg #[.slice V.wa V.ws.length V.wc, .slice V.pa V.ps.length V.pc, .slice V.ca V.cs.length V.cc]), (.int .i64 x.src.1)] (fun w => by kernel_rfl) (by simp only [List.map_toArray, List.map_cons, List.map_nil, (show a.eval (.tmp 210) = (.agg #[.slice V.wa V.ws.length V.wc, .slice V.pa V.ps.length V.pc, .slice V.ca V.cs.length V.cc]) from hk.slot 210 (by kernel_rfl)), (show a.eval (.tmp 216) = (.int .i64 x.src.1) from hk.slot 216 (by kernel_rfl))]) (v := (.bool h1)) (fun q => HC1.out q) rfl⟩
        · -- slot 218
          cases b with
          | true =>
            exact .inr ⟨unwanted_by 209 false (by kernel_rfl) (show a.eval (.tmp 209) = (.bool true) from hk.slot 209 (by kernel_rfl)), rfl⟩
          | false =>
            exact .inl ⟨wanted_by 209 false (by kernel_rfl) (show a.eval (.tmp 209) = (.bool false) from hk.slot 209 (by kernel_rfl)), q_not rfl _ (show a.eval (.tmp 217) = (.bool h1) from hk.slot 217 (by kernel_rfl)) rfl⟩
        · -- slot 219
          cases b with
          | true =>
            exact .inl ⟨wanted_free rfl, q_pick rfl true (show a.eval (.tmp 209) = (.bool true) from hk.slot 209 (by kernel_rfl)) rfl⟩
          | false =>
            exact .inl ⟨wanted_free rfl, q_pick rfl false (show a.eval (.tmp 209) = (.bool false) from hk.slot 209 (by kernel_rfl)) (show a.eval (.tmp 218) = (.bool (!h1)) from hk.slot 218 (by kernel_rfl))⟩
        · -- slot 220
          exact .inl ⟨wanted_free rfl, q_move (.tmp 219) rfl (show a.eval (.tmp 219) = (.bool (b || (!h1))) from hk.slot 219 (by kernel_rfl))⟩
        · -- slot 221
          cases b with
          | true =>
            exact .inr ⟨unwanted_by 220 false (by kernel_rfl) (show a.eval (.tmp 220) = (.bool (true || (!h1))) from hk.slot 220 (by kernel_rfl)), rfl⟩
          | false =>
            cases h1 with
            | true =>
              exact .inl ⟨wanted_by 220 false (by kernel_rfl) (show a.eval (.tmp 220) = (.bool (false || (!true))) from hk.slot 220 (by kernel_rfl)), q_load (.tmp 1) rfl (show a.eval (.tmp 1) = (.pointer (some ⟨w.heap.size, 0, none⟩)) from hk.old 1 (by kernel_rfl) (by kernel_rfl)) (v := (.agg #[.slice V.wa V.ws.length V.wc, .slice V.pa V.ps.length V.pc, .slice V.ca V.cs.length V.cc])) (fun q => load3 (fun w => by kernel_rfl) (fun w => by kernel_rfl) (keep q.bel c0) (keep q.bel c1) (keep q.bel c2)) rfl⟩
            | false =>
              exact .inr ⟨unwanted_by 220 false (by kernel_rfl) (show a.eval (.tmp 220) = (.bool (false || (!false))) from hk.slot 220 (by kernel_rfl)), rfl⟩
        · -- slot 222
          cases b with
          | true =>
            exact .inr ⟨unwanted_by 220 false (by kernel_rfl) (show a.eval (.tmp 220) = (.bool (true || (!h1))) from hk.slot 220 (by kernel_rfl)), rfl⟩
          | false =>
            cases h1 with
            | true =>
              exact .inl ⟨wanted_by 220 false (by kernel_rfl) (show a.eval (.tmp 220) = (.bool (false || (!true))) from hk.slot 220 (by kernel_rfl)), q_field (.tmp 1) rfl (show a.eval (.tmp 1) = (.pointer (some ⟨w.heap.size, 0, none⟩)) from hk.old 1 (by kernel_rfl) (by kernel_rfl)) (v := (.pointer (some ⟨w.heap.size, 2, none⟩))) (fun w => by kernel_rfl) rfl⟩
            | false =>
              exact .inr ⟨unwanted_by 220 false (by kernel_rfl) (show a.eval (.tmp 220) = (.bool (false || (!false))) from hk.slot 220 (by kernel_rfl)), rfl⟩
        · -- slot 223
          cases b with
          | true =>
            exact .inr ⟨unwanted_by 220 false (by kernel_rfl) (show a.eval (.tmp 220) = (.bool (true || (!h1))) from hk.slot 220 (by kernel_rfl)), rfl⟩
          | false =>
            cases h1 with
            | true =>
              exact .inl ⟨wanted_by 220 false (by kernel_rfl) (show a.eval (.tmp 220) = (.bool (false || (!true))) from hk.slot 220 (by kernel_rfl)), q_load (.tmp 222) rfl (show a.eval (.tmp 222) = (.pointer (some ⟨w.heap.size, 2, none⟩)) from hk.slot 222 (by kernel_rfl)) (v := (.slice V.ca V.cs.length V.cc)) (fun q => load_at (fun w => by kernel_rfl) (keep q.bel c2)) rfl⟩
            | false =>
              exact .inr ⟨unwanted_by 220 false (by kernel_rfl) (show a.eval (.tmp 220) = (.bool (false || (!false))) from hk.slot 220 (by kernel_rfl)), rfl⟩
        · -- slot 224
          cases b with
          | true =>
            exact .inr ⟨unwanted_by 220 false (by kernel_rfl) (show a.eval (.tmp 220) = (.bool (true || (!h1))) from hk.slot 220 (by kernel_rfl)), rfl⟩
          | false =>
            cases h1 with
            | true =>
              exact .inl ⟨wanted_by 220 false (by kernel_rfl) (show a.eval (.tmp 220) = (.bool (false || (!true))) from hk.slot 220 (by kernel_rfl)), q_move (.tmp 12) rfl (show a.eval (.tmp 12) = (.int .i64 (k : Int)) from hk.old 12 (by kernel_rfl) (by kernel_rfl))⟩
            | false =>
              exact .inr ⟨unwanted_by 220 false (by kernel_rfl) (show a.eval (.tmp 220) = (.bool (false || (!false))) from hk.slot 220 (by kernel_rfl)), rfl⟩
        · -- slot 225
          cases b with
          | true =>
            exact .inr ⟨unwanted_by 220 false (by kernel_rfl) (show a.eval (.tmp 220) = (.bool (true || (!h1))) from hk.slot 220 (by kernel_rfl)), rfl⟩
          | false =>
            cases h1 with
            | true =>
              exact .inl ⟨wanted_by 220 false (by kernel_rfl) (show a.eval (.tmp 220) = (.bool (false || (!true))) from hk.slot 220 (by kernel_rfl)), q_index (.tmp 223) (.tmp 224) rfl (show a.eval (.tmp 223) = (.slice V.ca V.cs.length V.cc) from hk.slot 223 (by kernel_rfl)) (show a.eval (.tmp 224) = (.int .i64 (k : Int)) from hk.slot 224 (by kernel_rfl)) (v := (.pointer (some (ad V.ca (k * 5))))) (fun w => i0 w) rfl⟩
            | false =>
              exact .inr ⟨unwanted_by 220 false (by kernel_rfl) (show a.eval (.tmp 220) = (.bool (false || (!false))) from hk.slot 220 (by kernel_rfl)), rfl⟩
        · -- slot 226
          cases b with
          | true =>
            exact .inr ⟨unwanted_by 220 false (by kernel_rfl) (show a.eval (.tmp 220) = (.bool (true || (!h1))) from hk.slot 220 (by kernel_rfl)), rfl⟩
          | false =>
            cases h1 with
            | true =>
              exact .inl ⟨wanted_by 220 false (by kernel_rfl) (show a.eval (.tmp 220) = (.bool (false || (!true))) from hk.slot 220 (by kernel_rfl)), q_field (.tmp 225) rfl (show a.eval (.tmp 225) = (.pointer (some (ad V.ca (k * 5)))) from hk.slot 225 (by kernel_rfl)) (v := (.pointer (some ⟨(ad V.ca (k * 5)).block, (ad V.ca (k * 5)).off + 2, none⟩))) (fun w => by kernel_rfl) rfl⟩
            | false =>
              exact .inr ⟨unwanted_by 220 false (by kernel_rfl) (show a.eval (.tmp 220) = (.bool (false || (!false))) from hk.slot 220 (by kernel_rfl)), rfl⟩
        · -- slot 227
          cases b with
          | true =>
            exact .inr ⟨unwanted_by 220 false (by kernel_rfl) (show a.eval (.tmp 220) = (.bool (true || (!h1))) from hk.slot 220 (by kernel_rfl)), rfl⟩
          | false =>
            cases h1 with
            | true =>
              exact .inl ⟨wanted_by 220 false (by kernel_rfl) (show a.eval (.tmp 220) = (.bool (false || (!true))) from hk.slot 220 (by kernel_rfl)), q_load (.tmp 226) rfl (show a.eval (.tmp 226) = (.pointer (some ⟨(ad V.ca (k * 5)).block, (ad V.ca (k * 5)).off + 2, none⟩)) from hk.slot 226 (by kernel_rfl)) (v := (.int .i64 x.dst.1)) (fun q => load_at (fun w => by kernel_rfl) (u2 q)) rfl⟩
            | false =>
              exact .inr ⟨unwanted_by 220 false (by kernel_rfl) (show a.eval (.tmp 220) = (.bool (false || (!false))) from hk.slot 220 (by kernel_rfl)), rfl⟩
        · -- slot 228
          cases b with
          | true =>
            exact .inr ⟨unwanted_by 220 false (by kernel_rfl) (show a.eval (.tmp 220) = (.bool (true || (!h1))) from hk.slot 220 (by kernel_rfl)), rfl⟩
          | false =>
            cases h1 with
            | true =>
              exact .inl ⟨wanted_by 220 false (by kernel_rfl) (show a.eval (.tmp 220) = (.bool (false || (!true))) from hk.slot 220 (by kernel_rfl)), q_call rfl rfl #[(.agg #[.slice V.wa V.ws.length V.wc, .slice V.pa V.ps.length V.pc, .slice V.ca V.cs.length V.cc]), (.int .i64 x.dst.1)] (fun w => by kernel_rfl) (by simp only [List.map_toArray, List.map_cons, List.map_nil, (show a.eval (.tmp 221) = (.agg #[.slice V.wa V.ws.length V.wc, .slice V.pa V.ps.length V.pc, .slice V.ca V.cs.length V.cc]) from hk.slot 221 (by kernel_rfl)), (show a.eval (.tmp 227) = (.int .i64 x.dst.1) from hk.slot 227 (by kernel_rfl))]) (v := (.bool h2)) (fun q => HC2.out q) rfl⟩
            | false =>
              exact .inr ⟨unwanted_by 220 false (by kernel_rfl) (show a.eval (.tmp 220) = (.bool (false || (!false))) from hk.slot 220 (by kernel_rfl)), rfl⟩
        · -- slot 229
          cases b with
          | true =>
            exact .inr ⟨unwanted_by 220 false (by kernel_rfl) (show a.eval (.tmp 220) = (.bool (true || (!h1))) from hk.slot 220 (by kernel_rfl)), rfl⟩
          | false =>
            cases h1 with
            | true =>
              exact .inl ⟨wanted_by 220 false (by kernel_rfl) (show a.eval (.tmp 220) = (.bool (false || (!true))) from hk.slot 220 (by kernel_rfl)), q_not rfl _ (show a.eval (.tmp 228) = (.bool h2) from hk.slot 228 (by kernel_rfl)) rfl⟩
            | false =>
              exact .inr ⟨unwanted_by 220 false (by kernel_rfl) (show a.eval (.tmp 220) = (.bool (false || (!false))) from hk.slot 220 (by kernel_rfl)), rfl⟩
        · -- slot 230
          cases b with
          | true =>
            exact .inl ⟨wanted_free rfl, q_pick rfl true (show a.eval (.tmp 220) = (.bool (true || (!h1))) from hk.slot 220 (by kernel_rfl)) rfl⟩
          | false =>
            cases h1 with
            | true =>
              exact .inl ⟨wanted_free rfl, q_pick rfl false (show a.eval (.tmp 220) = (.bool (false || (!true))) from hk.slot 220 (by kernel_rfl)) (show a.eval (.tmp 229) = (.bool (!h2)) from hk.slot 229 (by kernel_rfl))⟩
            | false =>
              exact .inl ⟨wanted_free rfl, q_pick rfl true (show a.eval (.tmp 220) = (.bool (false || (!false))) from hk.slot 220 (by kernel_rfl)) rfl⟩
        · -- slot 4
          exact .inl ⟨wanted_free rfl, q_assign (.tmp 230) rfl (show a.eval (.tmp 230) = (.bool ((b || (!h1)) || (!h2))) from hk.slot 230 (by kernel_rfl))⟩
      intro a ⟨w3, hb3⟩ hsame hall
      have he := act_same hsame [208, 209, 210, 211, 212, 213, 214, 215, 216, 217, 218, 219, 220, 221, 222, 223, 224, 225, 226, 227, 228, 229, 230, 4] (by kernel_rfl)
      simp only [List.foldl_cons, List.foldl_nil] at he
      rw [show a.eval (.tmp 4) = (.bool R) from (hall 4 (by kernel_rfl)).trans (congrArg Value.bool hR.out.symm)] at he
      generalize a.eval (.tmp 208) = x208 at he
      generalize a.eval (.tmp 209) = x209 at he
      generalize a.eval (.tmp 210) = x210 at he
      generalize a.eval (.tmp 211) = x211 at he
      generalize a.eval (.tmp 212) = x212 at he
      generalize a.eval (.tmp 213) = x213 at he
      generalize a.eval (.tmp 214) = x214 at he
      generalize a.eval (.tmp 215) = x215 at he
      generalize a.eval (.tmp 216) = x216 at he
      generalize a.eval (.tmp 217) = x217 at he
      generalize a.eval (.tmp 218) = x218 at he
      generalize a.eval (.tmp 219) = x219 at he
      generalize a.eval (.tmp 220) = x220 at he
      generalize a.eval (.tmp 221) = x221 at he
      generalize a.eval (.tmp 222) = x222 at he
      generalize a.eval (.tmp 223) = x223 at he
      generalize a.eval (.tmp 224) = x224 at he
      generalize a.eval (.tmp 225) = x225 at he
      generalize a.eval (.tmp 226) = x226 at he
      generalize a.eval (.tmp 227) = x227 at he
      generalize a.eval (.tmp 228) = x228 at he
      generalize a.eval (.tmp 229) = x229 at he
      generalize a.eval (.tmp 230) = x230 at he
      simp only [put_lit] at he
      dsimp only [List.set_cons_zero, List.set_cons_succ] at he
      subst he
      clear hsame hall
      go_wp2_with fail
      go_roundw
      case rel => exact ⟨k + 1, R, rfl, by go_num, by omega, HN.out, HBk.out.trans (hb3.mono HBk.out.size)⟩
      case measure => simp [intOf]; omega
    · have hk2 : k = V.cs.length := by omega
      have Hb : Hid (b = channelsBad V) := by
        rw [Hid, Hb.out, hk2, List.take_length, hR.out, ← hg1.out, ← hg2.out, ← hz.out]
        unfold channelsBad
        have e1 : decide (8 < V.cs.length) = decide ((8 : Int) < (V.cs.length : Int)) := decide_eq_decide.2 (by omega)
        have e2 : decide (chErr V.cs ≠ 0) = (chErr V.cs != 0) := by rw [Bool.eq_iff_iff]; simp
        rw [e1, e2, Bool.or_assoc]
      have HO := Lib.hid (HO.out.stay B)
      have HBB := Lib.hid HBw.out
      clear hk2
      go_upto_if 231 with fail
      go_cut [3] (fun s3 wx => ∃ (a : Option Addr) (L : List Int) (c : Nat), s3 = .slice a L.length c ∧ Hid (L = errsTo V 5) ∧ Hid (L.length ≤ 5) ∧ VOwn cZ 1 3 w0.heap.size wx a L c ∧ Below w0.heap.size w0 wx)
      case first =>
        have HT := Lib.hid (errsTo_succ V 4 (show 4 < 5 by decide))
        cases b with
        | true =>
          have HL2 : Hid (L ++ [(100 : Int)] = errsTo V 5) := by rw [Hid, HT.out, ← HL.out]; simp [bads, ← Hb.out]
          go_wp2_with ((with_reducible refine wpList_vapp1 (o := ⟨some 234, .call _, _, _, _, _⟩) etI cZ_len cZ_one (y := 100) (.tmp 232) (.tmp 233) (by with_unfolding_all rfl) (by with_unfolding_all rfl) HO.out (by with_unfolding_all rfl) (by have := HLL.out; omega) HBB.out.size (by with_unfolding_all rfl) (by with_unfolding_all rfl) ?_); intro a4 c4 w4 hO4 hg4 hn4; have HO4 := Lib.hid hO4; have HB4 := Lib.hid (HBB.out.trans (HO.out.grown hg4 HBB.out.size)); clear hO4 hg4 hn4)
          go_meet
          exact ⟨a4, L ++ [100], c4, by simp, HL2.out, by have := HLL.out; rw [Hid, List.length_append, List.length_singleton]; omega, HO4.out, HB4.out⟩
        | false =>
          have HL2 : Hid (L = errsTo V 5) := by rw [Hid, HT.out, ← HL.out]; simp [bads, ← Hb.out]
          go_wp2_with fail
          go_meet
          exact ⟨a, L, c, rfl, HL2.out, by have := HLL.out; rw [Hid]; omega, HO.out, HBB.out⟩
      case rest =>
        obtain ⟨a, L, c, rfl, HL, HLL, hO, hB⟩ := hcut
        clear Hb
        go_step
        exact sec6 w w0 wc V R HR HV HI HB0 hl1 hl2 hl3 a L c HL HLL hO hB _ _ _ _ _ _ _ _ _ _ _ _ _ _ _ _ _ _ _ _ _ _ _ _ _ _ _ _ _ _ _ _ _ _ _ _ _ _ _ _ _ _ _ _ _ _ _ _ _ _ _ _ _ _ _ _ _ _ _ _ _ _ _ _ _ _ _ _ _ _ _ _ _ _ _ _ _ _ _ _ _ _ _ _ _ _ _ _ _ _ _ _ _ _ _ _ _ _ _ _ _ _ _ _ _ _ _ _ _ _ _ _ _ _ _ _ _ _ _ _ _ _ _ _ _ _ _ _ _ _ _ _ _ _ _ _ _ _ _ _ _ _ _ _ _ _ _ _ _ _ _ _ _ _ _ _ _ _ _ _ _ _ _ _ _ _ _ _ _ _ _ _ _ _ _ _ _ _ _ _ _ _ _ _ _ _ _ _ _ _ _ _ _ _ _ _ _ _ _ _ _ _ _ _ _ _ _ _ _ _ _ _ _ _ _ _ _ _ _ _ _ _ _ _ _ _ _ _ _ _ _ _ _ _
end Go.Proofs.Ytpnbaapjjchlbaa

/- Chapter 12, the reference's All, part 4: walked. -/
namespace Go.Proofs.Ytpnbaapjjchlbaa
open Go Go.RowKit Go.Cit

def ra31 (x y : Reg) (_ _ : Nat) (b g1 g2 g3 : Bool) : Nat → Value
  | 172 => (.bool b)
  | 173 => (.bool b)
  | 174 => (bif (!b) then (.agg #[.int .i64 x.base.1, .int .i64 x.size.1]) else undef)
  | 175 => (bif (!b) then (.bool g1) else undef)
  | 176 => (bif (!b) then (.bool g1) else undef)
  | 177 => (bif ((!b) && g1) then (.agg #[.int .i64 y.base.1, .int .i64 y.size.1]) else undef)
  | 178 => (bif ((!b) && g1) then (.bool g2) else undef)
  | 179 => (bif (!b) then (.bool (g1 && g2)) else undef)
  | 180 => (bif (!b) then (.bool (g1 && g2)) else undef)
  | 181 => (bif ((!b) && (g1 && g2)) then (.agg #[.int .i64 x.base.1, .int .i64 x.size.1]) else undef)
  | 182 => (bif ((!b) && (g1 && g2)) then (.agg #[.int .i64 y.base.1, .int .i64 y.size.1]) else undef)
  | 183 => (bif ((!b) && (g1 && g2)) then (.bool g3) else undef)
  | 184 => (bif ((!b) && (g1 && g2)) then (.bool (!g3)) else undef)
  | 185 => (bif (!b) then (.bool ((g1 && g2) && (!g3))) else undef)
  | 186 => (.bool (b || ((g1 && g2) && (!g3))))
  | 4 => (.bool (b || ((g1 && g2) && (!g3))))
  | _ => undef
def ra31o (_ _ : Reg) (p1 p2 : Nat) (b _ _ _ : Bool) : Nat → Value
  | 4 => (.bool b)
  | 10 => (.pointer (some ⟨p1, 0, none⟩))
  | 11 => (.pointer (some ⟨p2, 0, none⟩))
  | _ => undef
set_option maxRecDepth 100000 in
set_option maxHeartbeats 8000000 in
theorem sec4 (w w0 wc : World) (V : CfgV) (R : List Int) (HR : Hid (R = errs V)) (HV : Hid (V.At w0)) (HI : Hid (InBox w0 w.heap.size V)) (HB0 : Hid (Below w.heap.size w w0)) (hl1 : V.ws.length ≤ 9223372036854775807) (hl2 : V.ps.length ≤ 9223372036854775807) (hl3 : V.cs.length ≤ 9223372036854775807)
    (a : Option Addr) (L : List Int) (c : Nat) (HL : Hid (L = errsTo V 3)) (HLL : Hid (L.length ≤ 3)) (hO : VOwn cZ 1 3 w0.heap.size wc a L c) (hB : Below w0.heap.size w0 wc) (x0 x2 x4 x5 x6 x7 x8 x9 x10 x11 x12 x13 x14 x15 x16 x17 x18 x19 x20 x21 x22 x23 x24 x25 x26 x27 x28 x29 x30 x31 x32 x33 x34 x35 x36 x37 x38 x39 x40 x41 x42 x43 x44 x45 x46 x47 x48 x49 x50 x51 x52 x53 x54 x55 x56 x57 x58 x59 x60 x61 x62 x63 x64 x65 x66 x67 x68 x69 x70 x71 x72 x73 x74 x75 x76 x77 x78 x79 x80 x81 x82 x83 x84 x85 x86 x87 x88 x89 x90 x91 x92 x93 x94 x95 x96 x97 x98 x99 x100 x101 x102 x103 x104 x105 x106 x107 x108 x109 x110 x111 x112 x113 x114 x115 x116 x117 x118 x119 x120 x121 x122 x123 x124 x125 x126 x127 x128 x129 x130 x131 x132 x133 x134 x135 x136 x137 x138 x139 x140 x141 x142 x143 x144 x145 x146 x147 x148 x149 x150 x151 x152 x153 x154 x155 x156 x157 x158 x159 x160 x161 x162 x163 x164 x165 x166 x167 x168 x169 x170 x171 x172 x173 x174 x175 x176 x177 x178 x179 x180 x181 x182 x183 x184 x185 x186 x187 x188 x189 x190 x191 x192 x193 x194 x195 x196 x197 x198 x199 x200 x201 x202 x203 x204 x205 x206 x207 x208 x209 x210 x211 x212 x213 x214 x215 x216 x217 x218 x219 x220 x221 x222 x223 x224 x225 x226 x227 x228 x229 x230 x231 x232 x233 x234 x235 : Value) :
    Code.wp Try.prog (restC 11 (bodyC Try.f21)) (bodyPost Try.prog Try.f21 (fun e w' => ∃ a c, e = .returned (.slice a R.length c) ∧ VOwn cZ 1 3 w.heap.size w' a R c ∧ Below w.heap.size w w')) ⟨#[x0, .pointer (some ⟨w.heap.size, 0, none⟩), x2, .slice a L.length c, x4, x5, x6, x7, x8, x9, x10, x11, x12, x13, x14, x15, x16, x17, x18, x19, x20, x21, x22, x23, x24, x25, x26, x27, x28, x29, x30, x31, x32, x33, x34, x35, x36, x37, x38, x39, x40, x41, x42, x43, x44, x45, x46, x47, x48, x49, x50, x51, x52, x53, x54, x55, x56, x57, x58, x59, x60, x61, x62, x63, x64, x65, x66, x67, x68, x69, x70, x71, x72, x73, x74, x75, x76, x77, x78, x79, x80, x81, x82, x83, x84, x85, x86, x87, x88, x89, x90, x91, x92, x93, x94, x95, x96, x97, x98, x99, x100, x101, x102, x103, x104, x105, x106, x107, x108, x109, x110, x111, x112, x113, x114, x115, x116, x117, x118, x119, x120, x121, x122, x123, x124, x125, x126, x127, x128, x129, x130, x131, x132, x133, x134, x135, x136, x137, x138, x139, x140, x141, x142, x143, x144, x145, x146, x147, x148, x149, x150, x151, x152, x153, x154, x155, x156, x157, x158, x159, x160, x161, x162, x163, x164, x165, x166, x167, x168, x169, x170, x171, x172, x173, x174, x175, x176, x177, x178, x179, x180, x181, x182, x183, x184, x185, x186, x187, x188, x189, x190, x191, x192, x193, x194, x195, x196, x197, x198, x199, x200, x201, x202, x203, x204, x205, x206, x207, x208, x209, x210, x211, x212, x213, x214, x215, x216, x217, x218, x219, x220, x221, x222, x223, x224, x225, x226, x227, x228, x229, x230, x231, x232, x233, x234, x235], []⟩ wc := by
  conv in restC _ _ => whnf
  have HO := Lib.hid hO
  have HBB := Lib.hid hB
  obtain ⟨c0, c1, c2⟩ := HI.out.keep hB
  clear hO hB
  go_wp2_with fail
  go_loopw [4, 8] (fun b s wr => ∃ (k : Nat) (q : Bool), b = .bool q ∧ s = .int .i64 k ∧ k ≤ V.ps.length ∧ Hid (q = badTo V.ps k) ∧ Below wc.heap.size wc wr) (fun _ s _ => V.ps.length - (intOf s).toNat)
  case atStart => exact ⟨0, false, rfl, rfl, Nat.zero_le _, by rw [Hid]; simp [badTo], Below.refl _ _⟩
  case round =>
    obtain ⟨k, b, rfl, rfl, hk, Hb, B⟩ := hrel
    have HBw := Lib.hid (HBB.out.trans (B.mono HBB.out.size))
    obtain ⟨c0, c1, c2⟩ := HI.out.keep HBw.out
    by_cases hlt : k < V.ps.length
    · skip
      have HBk := Lib.hid B
      clear B
      go_wp2_with fail
      go_loopw [4, 9] (fun b s wr2 => ∃ (j : Nat) (q : Bool), b = .bool q ∧ s = .int .i64 j ∧ j ≤ k ∧ Hid (q = (badTo V.ps k || badRow V.ps k j)) ∧ Below wc.heap.size wc wr2) (fun _ s _ => k - (intOf s).toNat)
      case atStart => exact ⟨0, b, rfl, rfl, Nat.zero_le _, by rw [Hid, Hb.out]; simp [badRow], HBk.out⟩
      case round =>
        obtain ⟨j, b, rfl, rfl, hj, Hb, B⟩ := hrel
        have HBv := Lib.hid B
        have HBw := Lib.hid (HBB.out.trans (B.mono HBB.out.size))
        obtain ⟨c0, c1, c2⟩ := HI.out.keep HBw.out
        clear B
        by_cases hjl : j < k
        · have hjn : j < V.ps.length := by omega
          have i0 := HV.out.pts.index etP k hlt
          have i1 := HV.out.pts.index etP j hjn
          have u : ∀ q : After wr, _ := fun q => pts_cells HV.out.pts (HBw.out.trans (q.bel.mono HBw.out.size)) k hlt
          have v : ∀ q : After wr, _ := fun q => pts_cells HV.out.pts (HBw.out.trans (q.bel.mono HBw.out.size)) j hjn
          have HS := Lib.hid (badRow_succ V.ps k j)
          have hbA : Hid (badAt V.ps k j = (mayR V.ps[k].reg && (mayR V.ps[j].reg && !apartR V.ps[k].reg V.ps[j].reg))) := by
            rw [Hid, badAt, List.getElem?_eq_getElem hlt, List.getElem?_eq_getElem hjn]
          obtain ⟨x, hx⟩ : ∃ x : Reg, Hid (x = V.ps[k].reg) := ⟨V.ps[k].reg, rfl⟩
          obtain ⟨y, hy⟩ : ∃ y : Reg, Hid (y = V.ps[j].reg) := ⟨V.ps[j].reg, rfl⟩
          rw [← hx.out] at u hbA
          rw [← hy.out] at v hbA
          obtain ⟨g1, hg1⟩ : ∃ g, Hid (mayR x = g) := ⟨_, rfl⟩
          obtain ⟨g2, hg2⟩ : ∃ g, Hid (mayR y = g) := ⟨_, rfl⟩
          obtain ⟨g3, hg3⟩ : ∃ g, Hid (apartR x y = g) := ⟨_, rfl⟩
          obtain ⟨R, hR⟩ : ∃ R, Hid (R = (b || ((g1 && g2) && (!g3)))) := ⟨_, rfl⟩
          have HN : Hid (R = (badTo V.ps k || badRow V.ps k (j + 1))) := by
            rw [Hid, HS.out, hR.out, Hb.out, hbA.out, hg1.out, hg2.out, hg3.out]
            cases badTo V.ps k <;> cases badRow V.ps k j <;> cases g1 <;> cases g2 <;> cases g3 <;> rfl
          go_wp2_with fail
          refine wp_region_boxes r30B (r30X x y) (r30T V w.heap.size k j x y) (by kernel_rfl) (by kernel_rfl) (by kernel_rfl) (fun _ _ _ _ _ h => h) (fun _ _ _ _ _ h => h) ?_ ?_ (fun j hj => by
              rcases (show j = 0 ∨ j = 1 by have : j < 2 := hj; omega) with rfl | rfl <;> exact ⟨by decide, by decide⟩)
          · refine opsAll_cons ?_ (opsAll_cons ?_ (opsAll_cons ?_ (opsAll_cons ?_ (opsAll_cons ?_ (opsAll_cons ?_ (opsAll_cons ?_ (opsAll_cons ?_ (opsAll_cons ?_ (opsAll_cons ?_ (opsAll_cons ?_ (opsAll_cons ?_ (opsAll_cons ?_ (opsAll_cons ?_ (opsAll_cons ?_ (opsAll_cons ?_ opsAll_nil)))))))))))))))
            all_goals intro δ wa wx hk
            · exact .inl ⟨wanted_free rfl, ne30 (by decide) (by decide) (by decide) (by decide), gp_field (.tmp 1) rfl (hk.old 1 (by kernel_rfl)) (v := .pointer (some ⟨w.heap.size, 1, none⟩)) (fun w => by kernel_rfl) ⟨Below.refl _ _, rfl⟩⟩
            · exact .inl ⟨wanted_free rfl, ne30 (by decide) (by decide) (by decide) (by decide), gp_load (.tmp 160) rfl (hk.slot 160 (by kernel_rfl)) (load_at (fun w => by kernel_rfl) (keep hk.inv.1 c1)) ⟨Below.refl _ _, rfl⟩⟩
            · exact .inl ⟨wanted_free rfl, ne30 (by decide) (by decide) (by decide) (by decide), gp_move (.tmp 8) rfl ⟨Below.refl _ _, hk.old 8 (by kernel_rfl)⟩⟩
            · exact .inl ⟨wanted_free rfl, ne30 (by decide) (by decide) (by decide) (by decide), gp_index (.tmp 161) (.tmp 162) rfl (hk.slot 161 (by kernel_rfl)) (hk.slot 162 (by kernel_rfl)) (i0 wx) ⟨Below.refl _ _, rfl⟩⟩
            · exact .inl ⟨wanted_free rfl, ne30 (by decide) (by decide) (by decide) (by decide), gp_field (.tmp 163) rfl (hk.slot 163 (by kernel_rfl)) (v := .pointer (some ⟨(ad V.pa (k * 5)).block, (ad V.pa (k * 5)).off + 1, none⟩)) (fun w => by kernel_rfl) ⟨Below.refl _ _, rfl⟩⟩
            · exact .inl ⟨wanted_free rfl, ne30 (by decide) (by decide) (by decide) (by decide), gp_load (.tmp 164) rfl (hk.slot 164 (by kernel_rfl)) (load2 (fun w => by kernel_rfl) (fun w => by kernel_rfl) (u ⟨wx, hk.inv.1⟩).2.1 (u ⟨wx, hk.inv.1⟩).2.2.1) ⟨Below.refl _ _, rfl⟩⟩
            · exact .inl ⟨wanted_free rfl, ne30 (by decide) (by decide) (by decide) (by decide), gp_field (.tmp 1) rfl (hk.old 1 (by kernel_rfl)) (v := .pointer (some ⟨w.heap.size, 1, none⟩)) (fun w => by kernel_rfl) ⟨Below.refl _ _, rfl⟩⟩
            · exact .inl ⟨wanted_free rfl, ne30 (by decide) (by decide) (by decide) (by decide), gp_load (.tmp 166) rfl (hk.slot 166 (by kernel_rfl)) (load_at (fun w => by kernel_rfl) (keep hk.inv.1 c1)) ⟨Below.refl _ _, rfl⟩⟩
            · exact .inl ⟨wanted_free rfl, ne30 (by decide) (by decide) (by decide) (by decide), gp_move (.tmp 9) rfl ⟨Below.refl _ _, hk.old 9 (by kernel_rfl)⟩⟩
            · exact .inl ⟨wanted_free rfl, ne30 (by decide) (by decide) (by decide) (by decide), gp_index (.tmp 167) (.tmp 168) rfl (hk.slot 167 (by kernel_rfl)) (hk.slot 168 (by kernel_rfl)) (i1 wx) ⟨Below.refl _ _, rfl⟩⟩
            · exact .inl ⟨wanted_free rfl, ne30 (by decide) (by decide) (by decide) (by decide), gp_field (.tmp 169) rfl (hk.slot 169 (by kernel_rfl)) (v := .pointer (some ⟨(ad V.pa (j * 5)).block, (ad V.pa (j * 5)).off + 1, none⟩)) (fun w => by kernel_rfl) ⟨Below.refl _ _, rfl⟩⟩
            · exact .inl ⟨wanted_free rfl, ne30 (by decide) (by decide) (by decide) (by decide), gp_load (.tmp 170) rfl (hk.slot 170 (by kernel_rfl)) (load2 (fun w => by kernel_rfl) (fun w => by kernel_rfl) (v ⟨wx, hk.inv.1⟩).2.1 (v ⟨wx, hk.inv.1⟩).2.2.1) ⟨Below.refl _ _, rfl⟩⟩
            · exact .inr (.inl ⟨0, by decide, rfl, rfl, rfl, alloc30 _ _ _ rfl, fun _ _ => trivial⟩)
            · exact .inr (.inl ⟨1, by decide, rfl, rfl, rfl, alloc30 _ _ _ rfl, fun _ _ => trivial⟩)
            · exact .inr (.inr ⟨0, #[.int .i64 x.base.1, .int .i64 x.size.1], by decide, rfl, rfl, rfl, rfl, rfl, fun g D hg hD hDs => store30 _ _ _ _ _ rfl hg (hk.slot 165 (by kernel_rfl)) hD hDs⟩)
            · exact .inr (.inr ⟨1, #[.int .i64 y.base.1, .int .i64 y.size.1], by decide, rfl, rfl, rfl, rfl, rfl, fun g D hg hD hDs => store30 _ _ _ _ _ rfl hg (hk.slot 171 (by kernel_rfl)) hD hDs⟩)
          intro a wz hbz hsame hall hbox
          obtain ⟨p1, C1, e10, _, hC1, hX1, _⟩ := hbox 0 (by decide)
          obtain ⟨p2, C2, e11, _, hC2, hX2, _⟩ := hbox 1 (by decide)
          have hX1 : C1 = #[.int .i64 x.base.1, .int .i64 x.size.1] := hX1
          have hX2 : C2 = #[.int .i64 y.base.1, .int .i64 y.size.1] := hX2
          subst hX1 hX2
          have he := act_same hsame [160, 161, 162, 163, 164, 165, 166, 167, 168, 169, 170, 171, 10, 11] (by kernel_rfl)
          simp only [List.foldl_cons, List.foldl_nil] at he
          rw [show a.eval (.tmp 10) = _ from e10, show a.eval (.tmp 11) = _ from e11] at he
          generalize a.eval (.tmp 160) = x160 at he
          generalize a.eval (.tmp 161) = x161 at he
          generalize a.eval (.tmp 162) = x162 at he
          generalize a.eval (.tmp 163) = x163 at he
          generalize a.eval (.tmp 164) = x164 at he
          generalize a.eval (.tmp 165) = x165 at he
          generalize a.eval (.tmp 166) = x166 at he
          generalize a.eval (.tmp 167) = x167 at he
          generalize a.eval (.tmp 168) = x168 at he
          generalize a.eval (.tmp 169) = x169 at he
          generalize a.eval (.tmp 170) = x170 at he
          generalize a.eval (.tmp 171) = x171 at he
          simp only [put_lit] at he
          dsimp only [List.set_cons_zero, List.set_cons_succ] at he
          subst he
          have hc1 : Hid (wz.heap[p1]? = some (.cells #[.int .i64 x.base.1, .int .i64 x.size.1] 40 (0, 0))) := hC1
          have hc2 : Hid (wz.heap[p2]? = some (.cells #[.int .i64 y.base.1, .int .i64 y.size.1] 40 (0, 0))) := hC2
          have HBZ := Lib.hid (HBv.out.trans (hbz.mono HBv.out.size))
          clear hsame hall hbox hC1 hC2 e10 e11 hbz
          have d0 : ∀ q : After wz, q.to.cell? ⟨p1, 0, none⟩ = some (.int .i64 x.base.1) := fun q => After.cell (by rw [World.cell?, hc1.out]; rfl) q
          have d1 : ∀ q : After wz, q.to.cell? ⟨p1, 1, none⟩ = some (.int .i64 x.size.1) := fun q => After.cell (by rw [World.cell?, hc1.out]; rfl) q
          have d2 : ∀ q : After wz, q.to.cell? ⟨p2, 0, none⟩ = some (.int .i64 y.base.1) := fun q => After.cell (by rw [World.cell?, hc2.out]; rfl) q
          have d3 : ∀ q : After wz, q.to.cell? ⟨p2, 1, none⟩ = some (.int .i64 y.size.1) := fun q => After.cell (by rw [World.cell?, hc2.out]; rfl) q
          have HC1 : Hid (∀ q : After wz, Calls Try.prog 61 #[.agg #[.int .i64 x.base.1, .int .i64 x.size.1]] q.to fun e w' => e = .returned (.bool g1) ∧ Below q.to.heap.size q.to w') := fun q => by
            have := refrmay_calls q.to x
            rwa [hg1.out] at this
          have HC2 : Hid (∀ q : After wz, Calls Try.prog 61 #[.agg #[.int .i64 y.base.1, .int .i64 y.size.1]] q.to fun e w' => e = .returned (.bool g2) ∧ Below q.to.heap.size q.to w') := fun q => by
            have := refrmay_calls q.to y
            rwa [hg2.out] at this
          have HC3 : Hid (∀ q : After wz, Calls Try.prog 62 #[.agg #[.int .i64 x.base.1, .int .i64 x.size.1], .agg #[.int .i64 y.base.1, .int .i64 y.size.1]] q.to fun e w' => e = .returned (.bool g3) ∧ Below q.to.heap.size q.to w') := fun q => by
            have := refrapart_calls q.to x y
            rwa [hg3.out] at this
          go_upto_region 31 with fail
          refine wp_region_vals0 (ra31 x y p1 p2 b g1 g2 g3) (ra31o x y p1 p2 b g1 g2 g3) [4, 10, 11] (by kernel_rfl) ⟨rfl, rfl, rfl, trivial⟩ ?_ ?_
          · refine opsAll_cons ?_ (opsAll_cons ?_ (opsAll_cons ?_ (opsAll_cons ?_ (opsAll_cons ?_ (opsAll_cons ?_ (opsAll_cons ?_ (opsAll_cons ?_ (opsAll_cons ?_ (opsAll_cons ?_ (opsAll_cons ?_ (opsAll_cons ?_ (opsAll_cons ?_ (opsAll_cons ?_ (opsAll_cons ?_ (opsAll_cons ?_ opsAll_nil)))))))))))))))
            all_goals intro a hk
            · -- slot 172
              exact .inl ⟨wanted_free rfl, q_move (.tmp 4) rfl (show a.eval (.tmp 4) = (.bool b) from hk.old 4 (by kernel_rfl) (by kernel_rfl))⟩
            · -- slot 173
              exact .inl ⟨wanted_free rfl, q_move (.tmp 172) rfl (show a.eval (.tmp 172) = (.bool b) from hk.slot 172 (by kernel_rfl))⟩
            · -- slot 174
              cases b with
              | true =>
                exact .inr ⟨unwanted_by 173 false (by kernel_rfl) (show a.eval (.tmp 173) = (.bool true) from hk.slot 173 (by kernel_rfl)), rfl⟩
              | false =>
                exact .inl ⟨wanted_by 173 false (by kernel_rfl) (show a.eval (.tmp 173) = (.bool false) from hk.slot 173 (by kernel_rfl)), q_load (.tmp 10) rfl (show a.eval (.tmp 10) = (.pointer (some ⟨p1, 0, none⟩)) from hk.old 10 (by kernel_rfl) (by kernel_rfl)) (v := (.agg #[.int .i64 x.base.1, .int .i64 x.size.1])) (fun q => load2 (fun w => by kernel_rfl) (fun w => by kernel_rfl) (d0 q) (d1 q)) rfl⟩
            · -- slot 175
              cases b with
              | true =>
                exact .inr ⟨unwanted_by 173 false (by kernel_rfl) (show a.eval (.tmp 173) = (.bool true) from hk.slot 173 (by kernel_rfl)), rfl⟩
              | false =>
                exact .inl ⟨wanted_by 173 false (by kernel_rfl) (show a.eval (.tmp 173) = (.bool false) from hk.slot 173 (by kernel_rfl)), q_call rfl rfl #[(.agg #[.int .i64 x.base.1, .int .i64 x.size.1])] (fun w => by kernel_rfl) (by simp only [List.map_toArray, List.map_cons, List.map_nil, (show a.eval (.tmp 174) = (.agg #[.int .i64 x.base.1, .int .i64 x.size.1]) from hk.slot 174 (by kernel_rfl))]) (v := (.bool g1)) (fun q => HC1.out q) rfl⟩
            · -- slot 176
              cases b with
              | true =>
                exact .inr ⟨unwanted_by 173 false (by kernel_rfl) (show a.eval (.tmp 173) = (.bool true) from hk.slot 173 (by kernel_rfl)), rfl⟩
              | false =>
                exact .inl ⟨wanted_by 173 false (by kernel_rfl) (show a.eval (.tmp 173) = (.bool false) from hk.slot 173 (by kernel_rfl)), q_move (.tmp 175) rfl (show a.eval (.tmp 175) = (.bool g1) from hk.slot 175 (by kernel_rfl))⟩
            · -- slot 177
              cases b with
              | true =>
                exact .inr ⟨unwanted_undef 176 true (by kernel_rfl) (show a.eval (.tmp 176) = undef from hk.slot 176 (by kernel_rfl)), rfl⟩
              | false =>
                cases g1 with
                | true =>
                  exact .inl ⟨wanted_by 176 true (by kernel_rfl) (show a.eval (.tmp 176) = (.bool true) from hk.slot 176 (by kernel_rfl)), q_load (.tmp 11) rfl (show a.eval (.tmp 11) = (.pointer (some ⟨p2, 0, none⟩)) from hk.old 11 (by kernel_rfl) (by kernel_rfl)) (v := (.agg #[.int .i64 y.base.1, .int .i64 y.size.1])) (fun q => load2 (fun w => by kernel_rfl) (fun w => by kernel_rfl) (d2 q) (d3 q)) rfl⟩
                | false =>
                  exact .inr ⟨unwanted_by 176 true (by kernel_rfl) (show a.eval (.tmp 176) = (.bool false) from hk.slot 176 (by kernel_rfl)), rfl⟩
            · -- slot 178
              cases b with
              | true =>
                exact .inr ⟨unwanted_undef 176 true (by kernel_rfl) (show a.eval (.tmp 176) = undef from hk.slot 176 (by kernel_rfl)), rfl⟩
              | false =>
                cases g1 with
                | true =>
                  exact .inl ⟨wanted_by 176 true (by kernel_rfl) (show a.eval (.tmp 176) = (.bool true) from hk.slot 176 (by kernel_rfl)), q_call rfl rfl #[(.agg #[.int .i64 y.base.1, .int .i64 y.size.1])] (fun w => by kernel_rfl) (by simp only [List.map_toArray, List.map_cons, List.map_nil, (show a.eval (.tmp 177) = (.agg #[.int .i64 y.base.1, .int .i64 y.size.1]) from hk.slot 177 (by kernel_rfl))]) (v := (.bool g2)) (fun q => HC2.out q) rfl⟩
                | false =>
                  exact .inr ⟨unwanted_by 176 true (by kernel_rfl) (show a.eval (.tmp 176) = (.bool false) from hk.slot 176 (by kernel_rfl)), rfl⟩
            · -- slot 179
              cases b with
              | true =>
                exact .inr ⟨unwanted_by 173 false (by kernel_rfl) (show a.eval (.tmp 173) = (.bool true) from hk.slot 173 (by kernel_rfl)), rfl⟩
              | false =>
                cases g1 with
                | true =>
                  exact .inl ⟨wanted_by 173 false (by kernel_rfl) (show a.eval (.tmp 173) = (.bool false) from hk.slot 173 (by kernel_rfl)), q_pick rfl true (show a.eval (.tmp 176) = (.bool true) from hk.slot 176 (by kernel_rfl)) (show a.eval (.tmp 178) = (.bool g2) from hk.slot 178 (by kernel_rfl))⟩
                | false =>
                  exact .inl ⟨wanted_by 173 false (by kernel_rfl) (show a.eval (.tmp 173) = (.bool false) from hk.slot 173 (by kernel_rfl)), q_pick rfl false (show a.eval (.tmp 176) = (.bool false) from hk.slot 176 (by kernel_rfl)) rfl⟩
            · -- slot 180
              cases b with
              | true =>
                exact .inr ⟨unwanted_by 173 false (by kernel_rfl) (show a.eval (.tmp 173) = (.bool true) from hk.slot 173 (by kernel_rfl)), rfl⟩
              | false =>
                exact .inl ⟨wanted_by 173 false (by kernel_rfl) (show a.eval (.tmp 173) = (.bool false) from hk.slot 173 (by kernel_rfl)), q_move (.tmp 179) rfl (show a.eval (.tmp 179) = (.bool (g1 && g2)) from hk.slot 179 (by kernel_rfl))⟩
            · -- slot 181
              cases b with
              | true =>
                exact .inr ⟨unwanted_undef 180 true (by kernel_rfl) (show a.eval (.tmp 180) = undef from hk.slot 180 (by kernel_rfl)), rfl⟩
              | false =>
                cases g1 with
                | true =>
                  cases g2 with
                  | true =>
                    exact .inl ⟨wanted_by 180 true (by kernel_rfl) (show a.eval (.tmp 180) = (.bool (true && true)) from hk.slot 180 (by kernel_rfl)), q_load (.tmp 10) rfl (show a.eval (.tmp 10) = (.pointer (some ⟨p1, 0, none⟩)) from hk.old 10 (by kernel_rfl) (by kernel_rfl)) (v := (.agg #[.int .i64 x.base.1, .int .i64 x.size.1])) (fun q => load2 (fun w => by kernel_rfl) (fun w => by kernel_rfl) (d0 q) (d1 q)) rfl⟩
                  | false =>
                    exact .inr ⟨unwanted_by 180 true (by kernel_rfl) (show a.eval (.tmp 180) = (.bool (true && false)) from hk.slot 180 (by kernel_rfl)), rfl⟩
                | false =>
                  exact .inr ⟨unwanted_by 180 true (by kernel_rfl) (show a.eval (.tmp 180) = (.bool (false && g2)) from hk.slot 180 (by kernel_rfl)), rfl⟩
            · -- slot 182
              cases b with
              | true =>
                exact .inr ⟨unwanted_undef 180 true (by kernel_rfl) (show a.eval (.tmp 180) = undef from hk.slot 180 (by kernel_rfl)), rfl⟩
              | false =>
                cases g1 with
                | true =>
                  cases g2 with
                  | true =>
                    exact .inl ⟨wanted_by 180 true (by kernel_rfl) (show a.eval (.tmp 180) = (.bool (true && true)) from hk.slot 180 (by kernel_rfl)), q_load (.tmp 11) rfl (show a.eval (.tmp 11) = (.pointer (some ⟨p2, 0, none⟩)) from hk.old 11 (by kernel_rfl) (by kernel_rfl)) (v := (.agg #[.int .i64 y.base.1, .int .i64 y.size.1])) (fun q => load2 (fun w => by kernel_rfl) (fun w => by kernel_rfl) (d2 q) (d3 q)) rfl⟩
                  | false =>
                    exact .inr ⟨unwanted_by 180 true (by kernel_rfl) (show a.eval (.tmp 180) = (.bool (true && false)) from hk.slot 180 (by kernel_rfl)), rfl⟩
                | false =>
                  exact .inr ⟨unwanted_by 180 true (by kernel_rfl) (show a.eval (.tmp 180) = (.bool (false && g2)) from hk.slot 180 (by kernel_rfl)), rfl⟩
            · -- slot 183
              cases b with
              | true =>
                exact .inr ⟨unwanted_undef 180 true (by kernel_rfl) (show a.eval (.tmp 180) = undef from hk.slot 180 (by kernel_rfl)), rfl⟩
              | false =>
                cases g1 with
                | true =>
                  cases g2 with
                  | true =>
                    exact .inl ⟨wanted_by 180 true (by kernel_rfl) (show a.eval (.tmp 180) = (.bool (true && true)) from hk.slot 180 (by kernel_rfl)), q_call rfl rfl #[(.agg #[.int .i64 x.base.1, .int .i64 x.size.1]), (.agg #[.int .i64 y.base.1, .int .i64 y.size.1])] (fun w => by kernel_rfl) (by simp only [List.map_toArray, List.map_cons, List.map_nil, (show a.eval (.tmp 181) = (.agg #[.int .i64 x.base.1, .int .i64 x.size.1]) from hk.slot 181 (by kernel_rfl)), (show a.eval (.tmp 182) = (.agg #[.int .i64 y.base.1, .int .i64 y.size.1]) from hk.slot 182 (by kernel_rfl))]) (v := (.bool g3)) (fun q => HC3.out q) rfl⟩
                  | false =>
                    exact .inr ⟨unwanted_by 180 true (by kernel_rfl) (show a.eval (.tmp 180) = (.bool (true && false)) from hk.slot 180 (by kernel_rfl)), rfl⟩
                | false =>
                  exact .inr ⟨unwanted_by 180 true (by kernel_rfl) (show a.eval (.tmp 180) = (.bool (false && g2)) from hk.slot 180 (by kernel_rfl)), rfl⟩
            · -- slot 184
              cases b with
              | true =>
                exact .inr ⟨unwanted_undef 180 true (by kernel_rfl) (show a.eval (.tmp 180) = undef from hk.slot 180 (by kernel_rfl)), rfl⟩
              | false =>
                cases g1 with
                | true =>
                  cases g2 with
                  | true =>
                    exact .inl ⟨wanted_by 180 true (by kernel_rfl) (show a.eval (.tmp 180) = (.bool (true && true)) from hk.slot 180 (by kernel_rfl)), q_not rfl _ (show a.eval (.tmp 183) = (.bool g3) from hk.slot 183 (by kernel_rfl)) rfl⟩
                  | false =>
                    exact .inr ⟨unwanted_by 180 true (by kernel_rfl) (show a.eval (.tmp 180) = (.bool (true && false)) from hk.slot 180 (by kernel_rfl)), rfl⟩
                | false =>
                  exact .inr ⟨unwanted_by 180 true (by kernel_rfl) (show a.eval (.tmp 180) = (.bool (false && g2)) from hk.slot 180 (by kernel_rfl)), rfl⟩
            · -- slot 185
              cases b with
              | true =>
                exact .inr ⟨unwanted_by 173 false (by kernel_rfl) (show a.eval (.tmp 173) = (.bool true) from hk.slot 173 (by kernel_rfl)), rfl⟩
              | false =>
                cases g1 with
                | true =>
                  cases g2 with
                  | true =>
                    exact .inl ⟨wanted_by 173 false (by kernel_rfl) (show a.eval (.tmp 173) = (.bool false) from hk.slot 173 (by kernel_rfl)), q_pick rfl true (show a.eval (.tmp 180) = (.bool (true && true)) from hk.slot 180 (by kernel_rfl)) (show a.eval (.tmp 184) = (.bool (!g3)) from hk.slot 184 (by kernel_rfl))⟩
                  | false =>
                    exact .inl ⟨wanted_by 173 false (by kernel_rfl) (show a.eval (.tmp 173) = (.bool false) from hk.slot 173 (by kernel_rfl)), q_pick rfl false (show a.eval (.tmp 180) = (.bool (true && false)) from hk.slot 180 (by kernel_rfl)) rfl⟩
                | false =>
                  exact .inl ⟨wanted_by 173 false (by kernel_rfl) (show a.eval (.tmp 173) = (.bool false) from hk.slot 173 (by kernel_rfl)), q_pick rfl false (show a.eval (.tmp 180) = (.bool (false && g2)) from hk.slot 180 (by kernel_rfl)) rfl⟩
            · -- slot 186
              cases b with
              | true =>
                exact .inl ⟨wanted_free rfl, q_pick rfl true (show a.eval (.tmp 173) = (.bool true) from hk.slot 173 (by kernel_rfl)) rfl⟩
              | false =>
                exact .inl ⟨wanted_free rfl, q_pick rfl false (show a.eval (.tmp 173) = (.bool false) from hk.slot 173 (by kernel_rfl)) (show a.eval (.tmp 185) = (.bool ((g1 && g2) && (!g3))) from hk.slot 185 (by kernel_rfl))⟩
            · -- slot 4
              exact .inl ⟨wanted_free rfl, q_assign (.tmp 186) rfl (show a.eval (.tmp 186) = (.bool (b || ((g1 && g2) && (!g3)))) from hk.slot 186 (by kernel_rfl))⟩
          intro a ⟨w3, hb3⟩ hsame hall
          have he := act_same hsame [172, 173, 174, 175, 176, 177, 178, 179, 180, 181, 182, 183, 184, 185, 186, 4] (by kernel_rfl)
          simp only [List.foldl_cons, List.foldl_nil] at he
          rw [show a.eval (.tmp 4) = (.bool R) from (hall 4 (by kernel_rfl)).trans (congrArg Value.bool hR.out.symm)] at he
          generalize a.eval (.tmp 172) = x172 at he
          generalize a.eval (.tmp 173) = x173 at he
          generalize a.eval (.tmp 174) = x174 at he
          generalize a.eval (.tmp 175) = x175 at he
          generalize a.eval (.tmp 176) = x176 at he
          generalize a.eval (.tmp 177) = x177 at he
          generalize a.eval (.tmp 178) = x178 at he
          generalize a.eval (.tmp 179) = x179 at he
          generalize a.eval (.tmp 180) = x180 at he
          generalize a.eval (.tmp 181) = x181 at he
          generalize a.eval (.tmp 182) = x182 at he
          generalize a.eval (.tmp 183) = x183 at he
          generalize a.eval (.tmp 184) = x184 at he
          generalize a.eval (.tmp 185) = x185 at he
          generalize a.eval (.tmp 186) = x186 at he
          simp only [put_lit] at he
          dsimp only [List.set_cons_zero, List.set_cons_succ] at he
          subst he
          clear hsame hall
          go_wp2_with fail
          go_roundw
          case rel => exact ⟨j + 1, R, rfl, by go_num, by omega, HN.out, HBZ.out.trans (hb3.mono HBZ.out.size)⟩
          case measure => simp [intOf]; omega
        · have hj2 : j = k := by omega
          have HN : Hid (b = badTo V.ps (k + 1)) := by rw [Hid, Hb.out, hj2, badTo_succ]
          go_wp2_with fail
          go_roundw
          case rel => exact ⟨k + 1, b, rfl, by go_num, by omega, HN.out, HBv.out⟩
          case measure => simp [intOf]; omega
    · have hk2 : k = V.ps.length := by omega
      have Hb : Hid (b = overlapBad V.ps) := by rw [Hid, Hb.out, hk2, badTo_eq]
      have HO := Lib.hid (HO.out.stay B)
      have HBB := Lib.hid HBw.out
      clear hk2
      go_upto_if 187 with fail
      go_cut [3] (fun s3 wx => ∃ (a : Option Addr) (L : List Int) (c : Nat), s3 = .slice a L.length c ∧ Hid (L = errsTo V 4) ∧ Hid (L.length ≤ 4) ∧ VOwn cZ 1 3 w0.heap.size wx a L c ∧ Below w0.heap.size w0 wx)
      case first =>
        have HT := Lib.hid (errsTo_succ V 3 (show 3 < 5 by decide))
        cases b with
        | true =>
          have HL2 : Hid (L ++ [(121 : Int)] = errsTo V 4) := by rw [Hid, HT.out, ← HL.out]; simp [bads, ← Hb.out]
          go_wp2_with ((with_reducible refine wpList_vapp1 (o := ⟨some 190, .call _, _, _, _, _⟩) etI cZ_len cZ_one (y := 121) (.tmp 188) (.tmp 189) (by with_unfolding_all rfl) (by with_unfolding_all rfl) HO.out (by with_unfolding_all rfl) (by have := HLL.out; omega) HBB.out.size (by with_unfolding_all rfl) (by with_unfolding_all rfl) ?_); intro a4 c4 w4 hO4 hg4 hn4; have HO4 := Lib.hid hO4; have HB4 := Lib.hid (HBB.out.trans (HO.out.grown hg4 HBB.out.size)); clear hO4 hg4 hn4)
          go_meet
          exact ⟨a4, L ++ [121], c4, by simp, HL2.out, by have := HLL.out; rw [Hid, List.length_append, List.length_singleton]; omega, HO4.out, HB4.out⟩
        | false =>
          have HL2 : Hid (L = errsTo V 4) := by rw [Hid, HT.out, ← HL.out]; simp [bads, ← Hb.out]
          go_wp2_with fail
          go_meet
          exact ⟨a, L, c, rfl, HL2.out, by have := HLL.out; rw [Hid]; omega, HO.out, HBB.out⟩
      case rest =>
        obtain ⟨a, L, c, rfl, HL, HLL, hO, hB⟩ := hcut
        clear Hb
        go_step
        exact sec5 w w0 wc V R HR HV HI HB0 hl1 hl2 hl3 a L c HL HLL hO hB _ _ _ _ _ _ _ _ _ _ _ _ _ _ _ _ _ _ _ _ _ _ _ _ _ _ _ _ _ _ _ _ _ _ _ _ _ _ _ _ _ _ _ _ _ _ _ _ _ _ _ _ _ _ _ _ _ _ _ _ _ _ _ _ _ _ _ _ _ _ _ _ _ _ _ _ _ _ _ _ _ _ _ _ _ _ _ _ _ _ _ _ _ _ _ _ _ _ _ _ _ _ _ _ _ _ _ _ _ _ _ _ _ _ _ _ _ _ _ _ _ _ _ _ _ _ _ _ _ _ _ _ _ _ _ _ _ _ _ _ _ _ _ _ _ _ _ _ _ _ _ _ _ _ _ _ _ _ _ _ _ _ _ _ _ _ _ _ _ _ _ _ _ _ _ _ _ _ _ _ _ _ _ _ _ _ _ _ _ _ _ _ _ _ _ _ _ _ _ _ _ _ _ _ _ _ _ _ _ _ _ _ _ _ _ _ _ _ _ _ _ _ _ _ _ _ _ _ _ _ _ _ _ _
end Go.Proofs.Ytpnbaapjjchlbaa

/- Chapter 12, the reference's All, part 3: walked. -/
namespace Go.Proofs.Ytpnbaapjjchlbaa
open Go Go.RowKit Go.Cit

def ra20 (V : CfgV) (B k : Nat) (x : PtV) (b g1 g2 : Bool) : Nat → Value
  | 116 => (.bool b)
  | 117 => (.bool b)
  | 118 => (bif (!b) then (.pointer (some ⟨B, 1, none⟩)) else undef)
  | 119 => (bif (!b) then (.slice V.pa V.ps.length V.pc) else undef)
  | 120 => (bif (!b) then (.int .i64 (k : Int)) else undef)
  | 121 => (bif (!b) then (.pointer (some (ad V.pa (k * 5)))) else undef)
  | 122 => (bif (!b) then (.pointer (some ⟨(ad V.pa (k * 5)).block, (ad V.pa (k * 5)).off + 1, none⟩)) else undef)
  | 123 => (bif (!b) then (.agg #[.int .i64 x.reg.base.1, .int .i64 x.reg.size.1]) else undef)
  | 124 => (bif (!b) then (.bool g1) else undef)
  | 125 => (bif (!b) then (.bool (!g1)) else undef)
  | 126 => (.bool (b || (!g1)))
  | 127 => (.bool (b || (!g1)))
  | 128 => (bif (!(b || (!g1))) then (.pointer (some ⟨B, 1, none⟩)) else undef)
  | 129 => (bif (!(b || (!g1))) then (.slice V.pa V.ps.length V.pc) else undef)
  | 130 => (bif (!(b || (!g1))) then (.int .i64 (k : Int)) else undef)
  | 131 => (bif (!(b || (!g1))) then (.pointer (some (ad V.pa (k * 5)))) else undef)
  | 132 => (bif (!(b || (!g1))) then (.pointer (some ⟨(ad V.pa (k * 5)).block, (ad V.pa (k * 5)).off + 4, none⟩)) else undef)
  | 133 => (bif (!(b || (!g1))) then (.slice x.a x.img.length x.c) else undef)
  | 134 => (bif (!(b || (!g1))) then (.int .i64 (x.img.length : Int)) else undef)
  | 135 => (bif (!(b || (!g1))) then (.pointer (some ⟨B, 1, none⟩)) else undef)
  | 136 => (bif (!(b || (!g1))) then (.slice V.pa V.ps.length V.pc) else undef)
  | 137 => (bif (!(b || (!g1))) then (.int .i64 (k : Int)) else undef)
  | 138 => (bif (!(b || (!g1))) then (.pointer (some (ad V.pa (k * 5)))) else undef)
  | 139 => (bif (!(b || (!g1))) then (.pointer (some ⟨(ad V.pa (k * 5)).block, (ad V.pa (k * 5)).off + 1, none⟩)) else undef)
  | 140 => (bif (!(b || (!g1))) then (.pointer (some ⟨(ad V.pa (k * 5)).block, (ad V.pa (k * 5)).off + 2, none⟩)) else undef)
  | 141 => (bif (!(b || (!g1))) then (.int .i64 x.reg.size.1) else undef)
  | 142 => (bif (!(b || (!g1))) then (.bool g2) else undef)
  | 143 => (.bool ((b || (!g1)) || g2))
  | 4 => (.bool ((b || (!g1)) || g2))
  | _ => undef
def ra20o (_ : CfgV) (B k : Nat) (_ : PtV) (b _ _ : Bool) : Nat → Value
  | 1 => (.pointer (some ⟨B, 0, none⟩))
  | 4 => (.bool b)
  | 7 => (.int .i64 (k : Int))
  | _ => undef
set_option maxRecDepth 100000 in
set_option maxHeartbeats 8000000 in
theorem sec3 (w w0 wc : World) (V : CfgV) (R : List Int) (HR : Hid (R = errs V)) (HV : Hid (V.At w0)) (HI : Hid (InBox w0 w.heap.size V)) (HB0 : Hid (Below w.heap.size w w0)) (hl1 : V.ws.length ≤ 9223372036854775807) (hl2 : V.ps.length ≤ 9223372036854775807) (hl3 : V.cs.length ≤ 9223372036854775807)
    (a : Option Addr) (L : List Int) (c : Nat) (HL : Hid (L = errsTo V 2)) (HLL : Hid (L.length ≤ 2)) (hO : VOwn cZ 1 3 w0.heap.size wc a L c) (hB : Below w0.heap.size w0 wc) (x0 x2 x4 x5 x6 x7 x8 x9 x10 x11 x12 x13 x14 x15 x16 x17 x18 x19 x20 x21 x22 x23 x24 x25 x26 x27 x28 x29 x30 x31 x32 x33 x34 x35 x36 x37 x38 x39 x40 x41 x42 x43 x44 x45 x46 x47 x48 x49 x50 x51 x52 x53 x54 x55 x56 x57 x58 x59 x60 x61 x62 x63 x64 x65 x66 x67 x68 x69 x70 x71 x72 x73 x74 x75 x76 x77 x78 x79 x80 x81 x82 x83 x84 x85 x86 x87 x88 x89 x90 x91 x92 x93 x94 x95 x96 x97 x98 x99 x100 x101 x102 x103 x104 x105 x106 x107 x108 x109 x110 x111 x112 x113 x114 x115 x116 x117 x118 x119 x120 x121 x122 x123 x124 x125 x126 x127 x128 x129 x130 x131 x132 x133 x134 x135 x136 x137 x138 x139 x140 x141 x142 x143 x144 x145 x146 x147 x148 x149 x150 x151 x152 x153 x154 x155 x156 x157 x158 x159 x160 x161 x162 x163 x164 x165 x166 x167 x168 x169 x170 x171 x172 x173 x174 x175 x176 x177 x178 x179 x180 x181 x182 x183 x184 x185 x186 x187 x188 x189 x190 x191 x192 x193 x194 x195 x196 x197 x198 x199 x200 x201 x202 x203 x204 x205 x206 x207 x208 x209 x210 x211 x212 x213 x214 x215 x216 x217 x218 x219 x220 x221 x222 x223 x224 x225 x226 x227 x228 x229 x230 x231 x232 x233 x234 x235 : Value) :
    Code.wp Try.prog (restC 8 (bodyC Try.f21)) (bodyPost Try.prog Try.f21 (fun e w' => ∃ a c, e = .returned (.slice a R.length c) ∧ VOwn cZ 1 3 w.heap.size w' a R c ∧ Below w.heap.size w w')) ⟨#[x0, .pointer (some ⟨w.heap.size, 0, none⟩), x2, .slice a L.length c, x4, x5, x6, x7, x8, x9, x10, x11, x12, x13, x14, x15, x16, x17, x18, x19, x20, x21, x22, x23, x24, x25, x26, x27, x28, x29, x30, x31, x32, x33, x34, x35, x36, x37, x38, x39, x40, x41, x42, x43, x44, x45, x46, x47, x48, x49, x50, x51, x52, x53, x54, x55, x56, x57, x58, x59, x60, x61, x62, x63, x64, x65, x66, x67, x68, x69, x70, x71, x72, x73, x74, x75, x76, x77, x78, x79, x80, x81, x82, x83, x84, x85, x86, x87, x88, x89, x90, x91, x92, x93, x94, x95, x96, x97, x98, x99, x100, x101, x102, x103, x104, x105, x106, x107, x108, x109, x110, x111, x112, x113, x114, x115, x116, x117, x118, x119, x120, x121, x122, x123, x124, x125, x126, x127, x128, x129, x130, x131, x132, x133, x134, x135, x136, x137, x138, x139, x140, x141, x142, x143, x144, x145, x146, x147, x148, x149, x150, x151, x152, x153, x154, x155, x156, x157, x158, x159, x160, x161, x162, x163, x164, x165, x166, x167, x168, x169, x170, x171, x172, x173, x174, x175, x176, x177, x178, x179, x180, x181, x182, x183, x184, x185, x186, x187, x188, x189, x190, x191, x192, x193, x194, x195, x196, x197, x198, x199, x200, x201, x202, x203, x204, x205, x206, x207, x208, x209, x210, x211, x212, x213, x214, x215, x216, x217, x218, x219, x220, x221, x222, x223, x224, x225, x226, x227, x228, x229, x230, x231, x232, x233, x234, x235], []⟩ wc := by
  conv in restC _ _ => whnf
  have HO := Lib.hid hO
  have HBB := Lib.hid hB
  obtain ⟨c0, c1, c2⟩ := HI.out.keep hB
  clear hO hB
  go_wp2_with fail
  go_loopw [4, 7] (fun b s wr => ∃ (k : Nat) (q : Bool), b = .bool q ∧ s = .int .i64 k ∧ k ≤ V.ps.length ∧ Hid (q = (V.ps.take k).any regBad) ∧ Below wc.heap.size wc wr) (fun _ s _ => V.ps.length - (intOf s).toNat)
  case atStart => exact ⟨0, false, rfl, rfl, Nat.zero_le _, by rw [Hid]; simp, Below.refl _ _⟩
  case round =>
    obtain ⟨k, b, rfl, rfl, hk, Hb, B⟩ := hrel
    have HBw := Lib.hid (HBB.out.trans (B.mono HBB.out.size))
    obtain ⟨c0, c1, c2⟩ := HI.out.keep HBw.out
    by_cases hlt : k < V.ps.length
    · skip
      have i0 := HV.out.pts.index etP k hlt
      have u : ∀ q : After wr, _ := fun q => pts_cells HV.out.pts (HBw.out.trans (q.bel.mono HBw.out.size)) k hlt
      have HBk := Lib.hid B
      have HS := Lib.hid (any_take regBad V.ps k hlt)
      clear B
      obtain ⟨x, hx⟩ : ∃ x : PtV, Hid (x = V.ps[k]) := ⟨V.ps[k], rfl⟩
      rw [← hx.out] at u HS
      obtain ⟨g1, hg1⟩ : ∃ g, Hid (mayR x.reg = g) := ⟨_, rfl⟩
      obtain ⟨g2, hg2⟩ : ∃ g, Hid (decide ((x.reg.size.1 : Int) < (x.img.length : Int)) = g) := ⟨_, rfl⟩
      have HC1 : Hid (∀ q : After wr, Calls Try.prog 61 #[.agg #[.int .i64 x.reg.base.1, .int .i64 x.reg.size.1]] q.to fun e w' => e = .returned (.bool g1) ∧ Below q.to.heap.size q.to w') := fun q => by
        have := refrmay_calls q.to x.reg
        rwa [hg1.out] at this
      obtain ⟨R, hR⟩ : ∃ R, Hid (R = ((b || (!g1)) || g2)) := ⟨_, rfl⟩
      have HN : Hid (R = (V.ps.take (k + 1)).any regBad) := by
        have e : regBad x = ((!g1) || g2) := by
          unfold regBad
          rw [hg1.out, ← hg2.out]
        rw [Hid, HS.out, hR.out, Hb.out, e]
        cases (V.ps.take k).any regBad <;> cases g1 <;> cases g2 <;> rfl
      go_wp2_with fail
      refine wp_region_vals (ra20 V w.heap.size k x b g1 g2) (ra20o V w.heap.size k x b g1 g2) [1, 4, 7] (by kernel_rfl) (by kernel_rfl) (by kernel_rfl) ⟨rfl, rfl, rfl, trivial⟩ ?_ ?_
      · refine opsAll_cons ?_ (opsAll_cons ?_ (opsAll_cons ?_ (opsAll_cons ?_ (opsAll_cons ?_ (opsAll_cons ?_ (opsAll_cons ?_ (opsAll_cons ?_ (opsAll_cons ?_ (opsAll_cons ?_ (opsAll_cons ?_ (opsAll_cons ?_ (opsAll_cons ?_ (opsAll_cons ?_ (opsAll_cons ?_ (opsAll_cons ?_ (opsAll_cons ?_ (opsAll_cons ?_ (opsAll_cons ?_ (opsAll_cons ?_ (opsAll_cons ?_ (opsAll_cons ?_ (opsAll_cons ?_ (opsAll_cons ?_ (opsAll_cons ?_ (opsAll_cons ?_ (opsAll_cons ?_ (opsAll_cons ?_ (opsAll_cons ?_ opsAll_nil))))))))))))))))))))))))))))
        all_goals intro a hk
        · -- slot 116
          exact .inl ⟨wanted_free rfl, q_move (.tmp 4) rfl (show a.eval (.tmp 4) = (.bool b) from hk.old 4 (by kernel_rfl) (by kernel_rfl))⟩
        · -- slot 117
          exact .inl ⟨wanted_free rfl, q_move (.tmp 116) rfl (show a.eval (.tmp 116) = (.bool b) from hk.slot 116 (by kernel_rfl))⟩
        · -- slot 118
          cases b with
          | true =>
            exact .inr ⟨unwanted_by 117 false (by kernel_rfl) (show a.eval (.tmp 117) = (.bool true) from hk.slot 117 (by kernel_rfl)), rfl⟩
          | false =>
            exact .inl ⟨wanted_by 117 false (by kernel_rfl) (show a.eval (.tmp 117) = (.bool false) from hk.slot 117 (by kernel_rfl)), q_field (.tmp 1) rfl (show a.eval (.tmp 1) = (.pointer (some ⟨w.heap.size, 0, none⟩)) from hk.old 1 (by kernel_rfl) (by kernel_rfl)) (v := (.pointer (some ⟨w.heap.size, 1, none⟩))) (fun w => by kernel_rfl) rfl⟩
        · -- slot 119
          cases b with
          | true =>
            exact .inr ⟨unwanted_by 117 false (by kernel_rfl) (show a.eval (.tmp 117) = (.bool true) from hk.slot 117 (by kernel_rfl)), rfl⟩
          | false =>
            exact .inl ⟨wanted_by 117 false (by kernel_rfl) (show a.eval (.tmp 117) = (.bool false) from hk.slot 117 (by kernel_rfl)), q_load (.tmp 118) rfl (show a.eval (.tmp 118) = (.pointer (some ⟨w.heap.size, 1, none⟩)) from hk.slot 118 (by kernel_rfl)) (v := (.slice V.pa V.ps.length V.pc)) (fun q => load_at (fun w => by kernel_rfl) (keep q.bel c1)) rfl⟩
        · -- slot 120
          cases b with
          | true =>
            exact .inr ⟨unwanted_by 117 false (by kernel_rfl) (show a.eval (.tmp 117) = (.bool true) from hk.slot 117 (by kernel_rfl)), rfl⟩
          | false =>
            exact .inl ⟨wanted_by 117 false (by kernel_rfl) (show a.eval (.tmp 117) = (.bool false) from hk.slot 117 (by kernel_rfl)), q_move (.tmp 7) rfl (show a.eval (.tmp 7) = (.int .i64 (k : Int)) from hk.old 7 (by kernel_rfl) (by kernel_rfl))⟩
        · -- slot 121
          cases b with
          | true =>
            exact .inr ⟨unwanted_by 117 false (by kernel_rfl) (show a.eval (.tmp 117) = (.bool true) from hk.slot 117 (by kernel_rfl)), rfl⟩
          | false =>
            exact .inl ⟨wanted_by 117 false (by kernel_rfl) (show a.eval (.tmp 117) = (.bool false) from hk.slot 117 (by kernel_rfl)), q_index (.tmp 119) (.tmp 120) rfl (show a.eval (.tmp 119) = (.slice V.pa V.ps.length V.pc) from hk.slot 119 (by kernel_rfl)) (show a.eval (.tmp 120) = (.int .i64 (k : Int)) from hk.slot 120 (by kernel_rfl)) (v := (.pointer (some (ad V.pa (k * 5))))) (fun w => i0 w) rfl⟩
        · -- slot 122
          cases b with
          | true =>
            exact .inr ⟨unwanted_by 117 false (by kernel_rfl) (show a.eval (.tmp 117) = (.bool true) from hk.slot 117 (by kernel_rfl)), rfl⟩
          | false =>
            exact .inl ⟨wanted_by 117 false (by kernel_rfl) (show a.eval (.tmp 117) = (.bool false) from hk.slot 117 (by kernel_rfl)), q_field (.tmp 121) rfl (show a.eval (.tmp 121) = (.pointer (some (ad V.pa (k * 5)))) from hk.slot 121 (by kernel_rfl)) (v := (.pointer (some ⟨(ad V.pa (k * 5)).block, (ad V.pa (k * 5)).off + 1, none⟩))) (fun w => by kernel_rfl) rfl⟩
        · -- slot 123
          cases b with
          | true =>
            exact .inr ⟨unwanted_by 117 false (by kernel_rfl) (show a.eval (.tmp 117) = (.bool true) from hk.slot 117 (by kernel_rfl)), rfl⟩
          | false =>
            exact .inl ⟨wanted_by 117 false (by kernel_rfl) (show a.eval (.tmp 117) = (.bool false) from hk.slot 117 (by kernel_rfl)), q_load (.tmp 122) rfl (show a.eval (.tmp 122) = (.pointer (some ⟨(ad V.pa (k * 5)).block, (ad V.pa (k * 5)).off + 1, none⟩)) from hk.slot 122 (by kernel_rfl)) (v := (.agg #[.int .i64 x.reg.base.1, .int .i64 x.reg.size.1])) (fun q => load2 (fun w => by kernel_rfl) (fun w => by kernel_rfl) (u q).2.1 (u q).2.2.1) rfl⟩
        · -- slot 124
          cases b with
          | true =>
            exact .inr ⟨unwanted_by 117 false (by kernel_rfl) (show a.eval (.tmp 117) = (.bool true) from hk.slot 117 (by kernel_rfl)), rfl⟩
          | false =>
            exact .inl ⟨wanted_by 117 false (by kernel_rfl) (show a.eval (.tmp 117) = (.bool false) from hk.slot 117 (by kernel_rfl)), q_call rfl rfl #[(.agg #[.int .i64 x.reg.base.1, .int .i64 x.reg.size.1])] (fun w => by kernel_rfl) (by simp only [List.map_toArray, List.map_cons, List.map_nil, (show a.eval (.tmp 123) = (.agg #[.int .i64 x.reg.base.1, .int .i64 x.reg.size.1]) from hk.slot 123 (by kernel_rfl))]) (v := (.bool g1)) (fun q => HC1.out q) rfl⟩
        · -- slot 125
          cases b with
          | true =>
            exact .inr ⟨unwanted_by 117 false (by kernel_rfl) (show a.eval (.tmp 117) = (.bool true) from hk.slot 117 (by kernel_rfl)), rfl⟩
          | false =>
            exact .inl ⟨wanted_by 117 false (by kernel_rfl) (show a.eval (.tmp 117) = (.bool false) from hk.slot 117 (by kernel_rfl)), q_not rfl _ (show a.eval (.tmp 124) = (.bool g1) from hk.slot 124 (by kernel_rfl)) rfl⟩
        · -- slot 126
          cases b with
          | true =>
            exact .inl ⟨wanted_free rfl, q_pick rfl true (show a.eval (.tmp 117) = (.bool true) from hk.slot 117 (by kernel_rfl)) rfl⟩
          | false =>
            exact .inl ⟨wanted_free rfl, q_pick rfl false (show a.eval (.tmp 117) = (.bool false) from hk.slot 117 (by kernel_rfl)) (show a.eval (.tmp 125) = (.bool (!g1)) from hk.slot 125 (by kernel_rfl))⟩
        · -- slot 127
          exact .inl ⟨wanted_free rfl, q_move (.tmp 126) rfl (show a.eval (.tmp 126) = (.bool (b || (!g1))) from hk.slot 126 (by kernel_rfl))⟩
        · -- slot 128
          cases b with
          | true =>
            exact .inr ⟨unwanted_by 127 false (by kernel_rfl) (show a.eval (.tmp 127) = (.bool (true || (!g1))) from hk.slot 127 (by kernel_rfl)), rfl⟩
          | false =>
            cases g1 with
            | true =>
              exact .inl ⟨wanted_by 127 false (by kernel_rfl) (show a.eval (.tmp 127) = (.bool (false || (!true))) from hk.slot 127 (by kernel_rfl)), q_field (.tmp 1) rfl (show a.eval (.tmp 1) = (.pointer (some ⟨w.heap.size, 0, none⟩)) from hk.old 1 (by kernel_rfl) (by kernel_rfl)) (v := (.pointer (some ⟨w.heap.size, 1, none⟩))) (fun w => by kernel_rfl) rfl⟩
            | false =>
              exact .inr ⟨unwanted_by 127 false (by kernel_rfl) (show a.eval (.tmp 127) = (.bool (false || (!false))) from hk.slot 127 (by kernel_rfl)), rfl⟩
        · -- slot 129
          cases b with
          | true =>
            exact .inr ⟨unwanted_by 127 false (by kernel_rfl) (show a.eval (.tmp 127) = (.bool (true || (!g1))) from hk.slot 127 (by kernel_rfl)), rfl⟩
          | false =>
            cases g1 with
            | true =>
              exact .inl ⟨wanted_by 127 false (by kernel_rfl) (show a.eval (.tmp 127) = (.bool (false || (!true))) from hk.slot 127 (by kernel_rfl)), q_load (.tmp 128) rfl (show a.eval (.tmp 128) = (.pointer (some ⟨w.heap.size, 1, none⟩)) from hk.slot 128 (by kernel_rfl)) (v := (.slice V.pa V.ps.length V.pc)) (fun q => load_at (fun w => by kernel_rfl) (keep q.bel c1)) rfl⟩
            | false =>
              exact .inr ⟨unwanted_by 127 false (by kernel_rfl) (show a.eval (.tmp 127) = (.bool (false || (!false))) from hk.slot 127 (by kernel_rfl)), rfl⟩
        · -- slot 130
          cases b with
          | true =>
            exact .inr ⟨unwanted_by 127 false (by kernel_rfl) (show a.eval (.tmp 127) = (.bool (true || (!g1))) from hk.slot 127 (by kernel_rfl)), rfl⟩
          | false =>
            cases g1 with
            | true =>
              exact .inl ⟨wanted_by 127 false (by kernel_rfl) (show a.eval (.tmp 127) = (.bool (false || (!true))) from hk.slot 127 (by kernel_rfl)), q_move (.tmp 7) rfl (show a.eval (.tmp 7) = (.int .i64 (k : Int)) from hk.old 7 (by kernel_rfl) (by kernel_rfl))⟩
            | false =>
              exact .inr ⟨unwanted_by 127 false (by kernel_rfl) (show a.eval (.tmp 127) = (.bool (false || (!false))) from hk.slot 127 (by kernel_rfl)), rfl⟩
        · -- slot 131
          cases b with
          | true =>
            exact .inr ⟨unwanted_by 127 false (by kernel_rfl) (show a.eval (.tmp 127) = (.bool (true || (!g1))) from hk.slot 127 (by kernel_rfl)), rfl⟩
          | false =>
            cases g1 with
            | true =>
              exact .inl ⟨wanted_by 127 false (by kernel_rfl) (show a.eval (.tmp 127) = (.bool (false || (!true))) from hk.slot 127 (by kernel_rfl)), q_index (.tmp 129) (.tmp 130) rfl (show a.eval (.tmp 129) = (.slice V.pa V.ps.length V.pc) from hk.slot 129 (by kernel_rfl)) (show a.eval (.tmp 130) = (.int .i64 (k : Int)) from hk.slot 130 (by kernel_rfl)) (v := (.pointer (some (ad V.pa (k * 5))))) (fun w => i0 w) rfl⟩
            | false =>
              exact .inr ⟨unwanted_by 127 false (by kernel_rfl) (show a.eval (.tmp 127) = (.bool (false || (!false))) from hk.slot 127 (by kernel_rfl)), rfl⟩
        · -- slot 132
          cases b with
          | true =>
            exact .inr ⟨unwanted_by 127 false (by kernel_rfl) (show a.eval (.tmp 127) = (.bool (true || (!g1))) from hk.slot 127 (by kernel_rfl)), rfl⟩
          | false =>
            cases g1 with
            | true =>
              exact .inl ⟨wanted_by 127 false (by kernel_rfl) (show a.eval (.tmp 127) = (.bool (false || (!true))) from hk.slot 127 (by kernel_rfl)), q_field (.tmp 131) rfl (show a.eval (.tmp 131) = (.pointer (some (ad V.pa (k * 5)))) from hk.slot 131 (by kernel_rfl)) (v := (.pointer (some ⟨(ad V.pa (k * 5)).block, (ad V.pa (k * 5)).off + 4, none⟩))) (fun w => by kernel_rfl) rfl⟩
            | false =>
              exact .inr ⟨unwanted_by 127 false (by kernel_rfl) (show a.eval (.tmp 127) = (.bool (false || (!false))) from hk.slot 127 (by kernel_rfl)), rfl⟩
        · -- slot 133
          cases b with
          | true =>
            exact .inr ⟨unwanted_by 127 false (by kernel_rfl) (show a.eval (.tmp 127) = (.bool (true || (!g1))) from hk.slot 127 (by kernel_rfl)), rfl⟩
          | false =>
            cases g1 with
            | true =>
              exact .inl ⟨wanted_by 127 false (by kernel_rfl) (show a.eval (.tmp 127) = (.bool (false || (!true))) from hk.slot 127 (by kernel_rfl)), q_load (.tmp 132) rfl (show a.eval (.tmp 132) = (.pointer (some ⟨(ad V.pa (k * 5)).block, (ad V.pa (k * 5)).off + 4, none⟩)) from hk.slot 132 (by kernel_rfl)) (v := (.slice x.a x.img.length x.c)) (fun q => load_at (fun w => by kernel_rfl) (u q).2.2.2.2) rfl⟩
            | false =>
              exact .inr ⟨unwanted_by 127 false (by kernel_rfl) (show a.eval (.tmp 127) = (.bool (false || (!false))) from hk.slot 127 (by kernel_rfl)), rfl⟩
        · -- slot 134
          cases b with
          | true =>
            exact .inr ⟨unwanted_by 127 false (by kernel_rfl) (show a.eval (.tmp 127) = (.bool (true || (!g1))) from hk.slot 127 (by kernel_rfl)), rfl⟩
          | false =>
            cases g1 with
            | true =>
              exact .inl ⟨wanted_by 127 false (by kernel_rfl) (show a.eval (.tmp 127) = (.bool (false || (!true))) from hk.slot 127 (by kernel_rfl)), q_len rfl (by kernel_rfl) (show a.eval (.tmp 133) = (.slice x.a x.img.length x.c) from hk.slot 133 (by kernel_rfl)) rfl⟩
            | false =>
              exact .inr ⟨unwanted_by 127 false (by kernel_rfl) (show a.eval (.tmp 127) = (.bool (false || (!false))) from hk.slot 127 (by kernel_rfl)), rfl⟩
        · -- slot 135
          cases b with
          | true =>
            exact .inr ⟨unwanted_by 127 false (by kernel_rfl) (show a.eval (.tmp 127) = (.bool (true || (!g1))) from hk.slot 127 (by kernel_rfl)), rfl⟩
          | false =>
            cases g1 with
            | true =>
              exact .inl ⟨wanted_by 127 false (by kernel_rfl) (show a.eval (.tmp 127) = (.bool (false || (!true))) from hk.slot 127 (by kernel_rfl)), q_field (.tmp 1) rfl (show a.eval (.tmp 1) = (.pointer (some ⟨w.heap.size, 0, none⟩)) from hk.old 1 (by kernel_rfl) (by kernel_rfl)) (v := (.pointer (some ⟨w.heap.size, 1, none⟩))) (fun w => by kernel_rfl) rfl⟩
            | false =>
              exact .inr ⟨unwanted_by 127 false (by kernel_rfl) (show a.eval (.tmp 127) = (.bool (false || (!false))) from hk.slot 127 (by kernel_rfl)), rfl⟩
        · -- slot 136
          cases b with
          | true =>
            exact .inr ⟨unwanted_by 127 false (by kernel_rfl) (show a.eval (.tmp 127) = (.bool (true || (!g1))) from hk.slot 127 (by kernel_rfl)), rfl⟩
          | false =>
            cases g1 with
            | true =>
              exact .inl ⟨wanted_by 127 false (by kernel_rfl) (show a.eval (.tmp 127) = (.bool (false || (!true))) from hk.slot 127 (by kernel_rfl)), q_load (.tmp 135) rfl (show a.eval (.tmp 135) = (.pointer (some ⟨w.heap.size, 1, none⟩)) from hk.slot 135 (by kernel_rfl)) (v := (.slice V.pa V.ps.length V.pc)) (fun q => load_at (fun w => by kernel_rfl) (keep q.bel c1)) rfl⟩
            | false =>
              exact .inr ⟨unwanted_by 127 false (by kernel_rfl) (show a.eval (.tmp 127) = (.bool (false || (!false))) from hk.slot 127 (by kernel_rfl)), rfl⟩
        · -- slot 137
          cases b with
          | true =>
            exact .inr ⟨unwanted_by 127 false (by kernel_rfl) (show a.eval (.tmp 127) = (.bool (true || (!g1))) from hk.slot 127 (by kernel_rfl)), rfl⟩
          | false =>
            cases g1 with
            | true =>
              exact .inl ⟨wanted_by 127 false (by kernel_rfl) (show a.eval (.tmp 127) = (.bool (false || (!true))) from hk.slot 127 (by kernel_rfl)), q_move (.tmp 7) rfl (show a.eval (.tmp 7) = (.int .i64 (k : Int)) from hk.old 7 (by kernel_rfl) (by kernel_rfl))⟩
            | false =>
              exact .inr ⟨unwanted_by 127 false (by kernel_rfl) (show a.eval (.tmp 127) = (.bool (false || (!false))) from hk.slot 127 (by kernel_rfl)), rfl⟩
        · -- slot 138
          cases b with
          | true =>
            exact .inr ⟨unwanted_by 127 false (by kernel_rfl) (show a.eval (.tmp 127) = (.bool (true || (!g1))) from hk.slot 127 (by kernel_rfl)), rfl⟩
          | false =>
            cases g1 with
            | true =>
              exact .inl ⟨wanted_by 127 false (by kernel_rfl) (show a.eval (.tmp 127) = (.bool (false || (!true))) from hk.slot 127 (by kernel_rfl)), q_index (.tmp 136) (.tmp 137) rfl (show a.eval (.tmp 136) = (.slice V.pa V.ps.length V.pc) from hk.slot 136 (by kernel_rfl)) (show a.eval (.tmp 137) = (.int .i64 (k : Int)) from hk.slot 137 (by kernel_rfl)) (v := (.pointer (some (ad V.pa (k * 5))))) (fun w => i0 w) rfl⟩
            | false =>
              exact .inr ⟨unwanted_by 127 false (by kernel_rfl) (show a.eval (.tmp 127) = (.bool (false || (!false))) from hk.slot 127 (by kernel_rfl)), rfl⟩
        · -- slot 139
          cases b with
          | true =>
            exact .inr ⟨unwanted_by 127 false (by kernel_rfl) (show a.eval (.tmp 127) = (.bool (true || (!g1))) from hk.slot 127 (by kernel_rfl)), rfl⟩
          | false =>
            cases g1 with
            | true =>
              exact .inl ⟨wanted_by 127 false (by kernel_rfl) (show a.eval (.tmp 127) = (.bool (false || (!true))) from hk.slot 127 (by kernel_rfl)), q_field (.tmp 138) rfl (show a.eval (.tmp 138) = (.pointer (some (ad V.pa (k * 5)))) from hk.slot 138 (by kernel_rfl)) (v := (.pointer (some ⟨(ad V.pa (k * 5)).block, (ad V.pa (k * 5)).off + 1, none⟩))) (fun w => by kernel_rfl) rfl⟩
            | false =>
              exact .inr ⟨unwanted_by 127 false (by kernel_rfl) (show a.eval (.tmp 127) = (.bool (false || (!false))) from hk.slot 127 (by kernel_rfl)), rfl⟩
        · -- slot 140
          cases b with
          | true =>
            exact .inr ⟨unwanted_by 127 false (by kernel_rfl) (show a.eval (.tmp 127) = (.bool (true || (!g1))) from hk.slot 127 (by kernel_rfl)), rfl⟩
          | false =>
            cases g1 with
            | true =>
              exact .inl ⟨wanted_by 127 false (by kernel_rfl) (show a.eval (.tmp 127) = (.bool (false || (!true))) from hk.slot 127 (by kernel_rfl)), q_field (.tmp 139) rfl (show a.eval (.tmp 139) = (.pointer (some ⟨(ad V.pa (k * 5)).block, (ad V.pa (k * 5)).off + 1, none⟩)) from hk.slot 139 (by kernel_rfl)) (v := (.pointer (some ⟨(ad V.pa (k * 5)).block, (ad V.pa (k * 5)).off + 2, none⟩))) (fun w => by kernel_rfl) rfl⟩
            | false =>
              exact .inr ⟨unwanted_by 127 false (by kernel_rfl) (show a.eval (.tmp 127) = (.bool (false || (!false))) from hk.slot 127 (by kernel_rfl)), rfl⟩
        · -- slot 141
          cases b with
          | true =>
            exact .inr ⟨unwanted_by 127 false (by kernel_rfl) (show a.eval (.tmp 127) = (.bool (true || (!g1))) from hk.slot 127 (by kernel_rfl)), rfl⟩
          | false =>
            cases g1 with
            | true =>
              exact .inl ⟨wanted_by 127 false (by kernel_rfl) (show a.eval (.tmp 127) = (.bool (false || (!true))) from hk.slot 127 (by kernel_rfl)), q_load (.tmp 140) rfl (show a.eval (.tmp 140) = (.pointer (some ⟨(ad V.pa (k * 5)).block, (ad V.pa (k * 5)).off + 2, none⟩)) from hk.slot 140 (by kernel_rfl)) (v := (.int .i64 x.reg.size.1)) (fun q => load_at (fun w => by kernel_rfl) (u q).2.2.1) rfl⟩
            | false =>
              exact .inr ⟨unwanted_by 127 false (by kernel_rfl) (show a.eval (.tmp 127) = (.bool (false || (!false))) from hk.slot 127 (by kernel_rfl)), rfl⟩
        · -- slot 142
          cases b with
          | true =>
            exact .inr ⟨unwanted_by 127 false (by kernel_rfl) (show a.eval (.tmp 127) = (.bool (true || (!g1))) from hk.slot 127 (by kernel_rfl)), rfl⟩
          | false =>
            cases g1 with
            | true =>
              exact .inl ⟨wanted_by 127 false (by kernel_rfl) (show a.eval (.tmp 127) = (.bool (false || (!true))) from hk.slot 127 (by kernel_rfl)), q_bin rfl (show a.eval (.tmp 134) = (.int .i64 (x.img.length : Int)) from hk.slot 134 (by kernel_rfl)) (show a.eval (.tmp 141) = (.int .i64 x.reg.size.1) from hk.slot 141 (by kernel_rfl)) (v := .bool (decide ((x.reg.size.1 : Int) < (x.img.length : Int)))) (fun w => by kernel_rfl) (congrArg Value.bool (hg2.out))⟩
            | false =>
              exact .inr ⟨unwanted_by 127 false (by kernel_rfl) (show a.eval (.tmp 127) = (.bool (false || (!false))) from hk.slot 127 (by kernel_rfl)), rfl⟩
        · -- slot 143
          cases b with
          | true =>
            exact .inl ⟨wanted_free rfl, q_pick rfl true (show a.eval (.tmp 127) = (.bool (true || (!g1))) from hk.slot 127 (by kernel_rfl)) rfl⟩
          | false =>
            cases g1 with
            | true =>
              exact .inl ⟨wanted_free rfl, q_pick rfl false (show a.eval (.tmp 127) = (.bool (false || (!true))) from hk.slot 127 (by kernel_rfl)) (show a.eval (.tmp 142) = (.bool g2) from hk.slot 142 (by kernel_rfl))⟩
            | false =>
              exact .inl ⟨wanted_free rfl, q_pick rfl true (show a.eval (.tmp 127) = (.bool (false || (!false))) from hk.slot 127 (by kernel_rfl)) rfl⟩
        · -- slot 4
          exact .inl ⟨wanted_free rfl, q_assign (.tmp 143) rfl (show a.eval (.tmp 143) = (.bool ((b || (!g1)) || g2)) from hk.slot 143 (by kernel_rfl))⟩
      intro a ⟨w3, hb3⟩ hsame hall
      have he := act_same hsame [116, 117, 118, 119, 120, 121, 122, 123, 124, 125, 126, 127, 128, 129, 130, 131, 132, 133, 134, 135, 136, 137, 138, 139, 140, 141, 142, 143, 4] (by kernel_rfl)
      simp only [List.foldl_cons, List.foldl_nil] at he
      rw [show a.eval (.tmp 4) = (.bool R) from (hall 4 (by kernel_rfl)).trans (congrArg Value.bool hR.out.symm)] at he
      generalize a.eval (.tmp 116) = x116 at he
      generalize a.eval (.tmp 117) = x117 at he
      generalize a.eval (.tmp 118) = x118 at he
      generalize a.eval (.tmp 119) = x119 at he
      generalize a.eval (.tmp 120) = x120 at he
      generalize a.eval (.tmp 121) = x121 at he
      generalize a.eval (.tmp 122) = x122 at he
      generalize a.eval (.tmp 123) = x123 at he
      generalize a.eval (.tmp 124) = x124 at he
      generalize a.eval (.tmp 125) = x125 at he
      generalize a.eval (.tmp 126) = x126 at he
      generalize a.eval (.tmp 127) = x127 at he
      generalize a.eval (.tmp 128) = x128 at he
      generalize a.eval (.tmp 129) = x129 at he
      generalize a.eval (.tmp 130) = x130 at he
      generalize a.eval (.tmp 131) = x131 at he
      generalize a.eval (.tmp 132) = x132 at he
      generalize a.eval (.tmp 133) = x133 at he
      generalize a.eval (.tmp 134) = x134 at he
      generalize a.eval (.tmp 135) = x135 at he
      generalize a.eval (.tmp 136) = x136 at he
      generalize a.eval (.tmp 137) = x137 at he
      generalize a.eval (.tmp 138) = x138 at he
      generalize a.eval (.tmp 139) = x139 at he
      generalize a.eval (.tmp 140) = x140 at he
      generalize a.eval (.tmp 141) = x141 at he
      generalize a.eval (.tmp 142) = x142 at he
      generalize a.eval (.tmp 143) = x143 at he
      simp only [put_lit] at he
      dsimp only [List.set_cons_zero, List.set_cons_succ] at he
      subst he
      clear hsame hall
      go_wp2_with fail
      go_roundw
      case rel => exact ⟨k + 1, R, rfl, by go_num, by omega, HN.out, HBk.out.trans (hb3.mono HBk.out.size)⟩
      case measure => simp [intOf]; omega
    · have hk2 : k = V.ps.length := by omega
      have Hb : Hid (b = regionsBad V.ps) := by rw [Hid, Hb.out, hk2, List.take_length]; rfl
      have HO := Lib.hid (HO.out.stay B)
      have HBB := Lib.hid HBw.out
      clear hk2
      go_upto_if 144 with fail
      go_cut [3] (fun s3 wx => ∃ (a : Option Addr) (L : List Int) (c : Nat), s3 = .slice a L.length c ∧ Hid (L = errsTo V 3) ∧ Hid (L.length ≤ 3) ∧ VOwn cZ 1 3 w0.heap.size wx a L c ∧ Below w0.heap.size w0 wx)
      case first =>
        have HT := Lib.hid (errsTo_succ V 2 (show 2 < 5 by decide))
        cases b with
        | true =>
          have HL2 : Hid (L ++ [(80 : Int)] = errsTo V 3) := by rw [Hid, HT.out, ← HL.out]; simp [bads, ← Hb.out]
          go_wp2_with ((with_reducible refine wpList_vapp1 (o := ⟨some 147, .call _, _, _, _, _⟩) etI cZ_len cZ_one (y := 80) (.tmp 145) (.tmp 146) (by with_unfolding_all rfl) (by with_unfolding_all rfl) HO.out (by with_unfolding_all rfl) (by have := HLL.out; omega) HBB.out.size (by with_unfolding_all rfl) (by with_unfolding_all rfl) ?_); intro a4 c4 w4 hO4 hg4 hn4; have HO4 := Lib.hid hO4; have HB4 := Lib.hid (HBB.out.trans (HO.out.grown hg4 HBB.out.size)); clear hO4 hg4 hn4)
          go_meet
          exact ⟨a4, L ++ [80], c4, by simp, HL2.out, by have := HLL.out; rw [Hid, List.length_append, List.length_singleton]; omega, HO4.out, HB4.out⟩
        | false =>
          have HL2 : Hid (L = errsTo V 3) := by rw [Hid, HT.out, ← HL.out]; simp [bads, ← Hb.out]
          go_wp2_with fail
          go_meet
          exact ⟨a, L, c, rfl, HL2.out, by have := HLL.out; rw [Hid]; omega, HO.out, HBB.out⟩
      case rest =>
        obtain ⟨a, L, c, rfl, HL, HLL, hO, hB⟩ := hcut
        clear Hb
        go_step
        exact sec4 w w0 wc V R HR HV HI HB0 hl1 hl2 hl3 a L c HL HLL hO hB _ _ _ _ _ _ _ _ _ _ _ _ _ _ _ _ _ _ _ _ _ _ _ _ _ _ _ _ _ _ _ _ _ _ _ _ _ _ _ _ _ _ _ _ _ _ _ _ _ _ _ _ _ _ _ _ _ _ _ _ _ _ _ _ _ _ _ _ _ _ _ _ _ _ _ _ _ _ _ _ _ _ _ _ _ _ _ _ _ _ _ _ _ _ _ _ _ _ _ _ _ _ _ _ _ _ _ _ _ _ _ _ _ _ _ _ _ _ _ _ _ _ _ _ _ _ _ _ _ _ _ _ _ _ _ _ _ _ _ _ _ _ _ _ _ _ _ _ _ _ _ _ _ _ _ _ _ _ _ _ _ _ _ _ _ _ _ _ _ _ _ _ _ _ _ _ _ _ _ _ _ _ _ _ _ _ _ _ _ _ _ _ _ _ _ _ _ _ _ _ _ _ _ _ _ _ _ _ _ _ _ _ _ _ _ _ _ _ _ _ _ _ _ _ _ _ _ _ _ _ _ _ _ _
end Go.Proofs.Ytpnbaapjjchlbaa

/- Chapter 12, the reference's All, part 2: walked. -/
namespace Go.Proofs.Ytpnbaapjjchlbaa
open Go Go.RowKit Go.Cit

def ra9 (V : CfgV) (B : Nat) (g1 g2 : Bool) : Nat → Value
  | 49 => (.pointer (some ⟨B, 1, none⟩))
  | 50 => (.slice V.pa V.ps.length V.pc)
  | 51 => (.int .i64 (V.ps.length : Int))
  | 52 => (.bool g1)
  | 53 => (.bool g1)
  | 54 => (bif (!g1) then (.pointer (some ⟨B, 1, none⟩)) else undef)
  | 55 => (bif (!g1) then (.slice V.pa V.ps.length V.pc) else undef)
  | 56 => (bif (!g1) then (.int .i64 (V.ps.length : Int)) else undef)
  | 57 => (bif (!g1) then (.bool g2) else undef)
  | 58 => (.bool (g1 || g2))
  | 4 => (.bool (g1 || g2))
  | _ => undef
def ra9o (_ : CfgV) (B : Nat) (_ _ : Bool) : Nat → Value
  | 1 => (.pointer (some ⟨B, 0, none⟩))
  | _ => undef
def ra13 (V : CfgV) (B k : Nat) (x y : Int) (b g1 g2 g3 g4 : Bool) : Nat → Value
  | 66 => (.bool b)
  | 67 => (.bool b)
  | 68 => (bif (!b) then (.pointer (some ⟨B, 1, none⟩)) else undef)
  | 69 => (bif (!b) then (.slice V.pa V.ps.length V.pc) else undef)
  | 70 => (bif (!b) then (.int .i64 (k : Int)) else undef)
  | 71 => (bif (!b) then (.pointer (some (ad V.pa (k * 5)))) else undef)
  | 72 => (bif (!b) then (.pointer (some (ad V.pa (k * 5)))) else undef)
  | 73 => (bif (!b) then (.int .i64 x) else undef)
  | 74 => (bif (!b) then (.bool g1) else undef)
  | 75 => (.bool (b || g1))
  | 76 => (.bool (b || g1))
  | 77 => (bif (!(b || g1)) then (.pointer (some ⟨B, 1, none⟩)) else undef)
  | 78 => (bif (!(b || g1)) then (.slice V.pa V.ps.length V.pc) else undef)
  | 79 => (bif (!(b || g1)) then (.int .i64 (k : Int)) else undef)
  | 80 => (bif (!(b || g1)) then (.pointer (some (ad V.pa (k * 5)))) else undef)
  | 81 => (bif (!(b || g1)) then (.pointer (some (ad V.pa (k * 5)))) else undef)
  | 82 => (bif (!(b || g1)) then (.int .i64 x) else undef)
  | 83 => (bif (!(b || g1)) then (.bool g2) else undef)
  | 84 => (.bool ((b || g1) || g2))
  | 85 => (.bool ((b || g1) || g2))
  | 86 => (bif (!((b || g1) || g2)) then (.int .i64 (k : Int)) else undef)
  | 87 => (bif (!((b || g1) || g2)) then (.bool g3) else undef)
  | 88 => (bif (!((b || g1) || g2)) then (.bool g3) else undef)
  | 89 => (bif ((!((b || g1) || g2)) && g3) then (.pointer (some ⟨B, 1, none⟩)) else undef)
  | 90 => (bif ((!((b || g1) || g2)) && g3) then (.slice V.pa V.ps.length V.pc) else undef)
  | 91 => (bif ((!((b || g1) || g2)) && g3) then (.int .i64 (k : Int)) else undef)
  | 92 => (bif ((!((b || g1) || g2)) && g3) then (.pointer (some (ad V.pa (k * 5)))) else undef)
  | 93 => (bif ((!((b || g1) || g2)) && g3) then (.pointer (some (ad V.pa (k * 5)))) else undef)
  | 94 => (bif ((!((b || g1) || g2)) && g3) then (.int .i64 x) else undef)
  | 95 => (bif ((!((b || g1) || g2)) && g3) then (.pointer (some ⟨B, 1, none⟩)) else undef)
  | 96 => (bif ((!((b || g1) || g2)) && g3) then (.slice V.pa V.ps.length V.pc) else undef)
  | 97 => (bif ((!((b || g1) || g2)) && g3) then (.int .i64 (k : Int)) else undef)
  | 98 => (bif ((!((b || g1) || g2)) && g3) then (.int .i64 ((k - 1 : Nat) : Int)) else undef)
  | 99 => (bif ((!((b || g1) || g2)) && g3) then (.pointer (some (ad V.pa ((k - 1) * 5)))) else undef)
  | 100 => (bif ((!((b || g1) || g2)) && g3) then (.pointer (some (ad V.pa ((k - 1) * 5)))) else undef)
  | 101 => (bif ((!((b || g1) || g2)) && g3) then (.int .i64 y) else undef)
  | 102 => (bif ((!((b || g1) || g2)) && g3) then (.bool g4) else undef)
  | 103 => (bif (!((b || g1) || g2)) then (.bool (g3 && g4)) else undef)
  | 104 => (.bool (((b || g1) || g2) || (g3 && g4)))
  | 4 => (.bool (((b || g1) || g2) || (g3 && g4)))
  | _ => undef
def ra13o (_ : CfgV) (B k : Nat) (_ _ : Int) (b _ _ _ _ : Bool) : Nat → Value
  | 1 => (.pointer (some ⟨B, 0, none⟩))
  | 4 => (.bool b)
  | 6 => (.int .i64 (k : Int))
  | _ => undef
set_option maxRecDepth 100000 in
set_option maxHeartbeats 8000000 in
theorem sec2 (w w0 wc : World) (V : CfgV) (R : List Int) (HR : Hid (R = errs V)) (HV : Hid (V.At w0)) (HI : Hid (InBox w0 w.heap.size V)) (HB0 : Hid (Below w.heap.size w w0)) (hl1 : V.ws.length ≤ 9223372036854775807) (hl2 : V.ps.length ≤ 9223372036854775807) (hl3 : V.cs.length ≤ 9223372036854775807)
    (a : Option Addr) (L : List Int) (c : Nat) (HL : Hid (L = errsTo V 1)) (HLL : Hid (L.length ≤ 1)) (hO : VOwn cZ 1 3 w0.heap.size wc a L c) (hB : Below w0.heap.size w0 wc) (x0 x2 x4 x5 x6 x7 x8 x9 x10 x11 x12 x13 x14 x15 x16 x17 x18 x19 x20 x21 x22 x23 x24 x25 x26 x27 x28 x29 x30 x31 x32 x33 x34 x35 x36 x37 x38 x39 x40 x41 x42 x43 x44 x45 x46 x47 x48 x49 x50 x51 x52 x53 x54 x55 x56 x57 x58 x59 x60 x61 x62 x63 x64 x65 x66 x67 x68 x69 x70 x71 x72 x73 x74 x75 x76 x77 x78 x79 x80 x81 x82 x83 x84 x85 x86 x87 x88 x89 x90 x91 x92 x93 x94 x95 x96 x97 x98 x99 x100 x101 x102 x103 x104 x105 x106 x107 x108 x109 x110 x111 x112 x113 x114 x115 x116 x117 x118 x119 x120 x121 x122 x123 x124 x125 x126 x127 x128 x129 x130 x131 x132 x133 x134 x135 x136 x137 x138 x139 x140 x141 x142 x143 x144 x145 x146 x147 x148 x149 x150 x151 x152 x153 x154 x155 x156 x157 x158 x159 x160 x161 x162 x163 x164 x165 x166 x167 x168 x169 x170 x171 x172 x173 x174 x175 x176 x177 x178 x179 x180 x181 x182 x183 x184 x185 x186 x187 x188 x189 x190 x191 x192 x193 x194 x195 x196 x197 x198 x199 x200 x201 x202 x203 x204 x205 x206 x207 x208 x209 x210 x211 x212 x213 x214 x215 x216 x217 x218 x219 x220 x221 x222 x223 x224 x225 x226 x227 x228 x229 x230 x231 x232 x233 x234 x235 : Value) :
    Code.wp Try.prog (restC 5 (bodyC Try.f21)) (bodyPost Try.prog Try.f21 (fun e w' => ∃ a c, e = .returned (.slice a R.length c) ∧ VOwn cZ 1 3 w.heap.size w' a R c ∧ Below w.heap.size w w')) ⟨#[x0, .pointer (some ⟨w.heap.size, 0, none⟩), x2, .slice a L.length c, x4, x5, x6, x7, x8, x9, x10, x11, x12, x13, x14, x15, x16, x17, x18, x19, x20, x21, x22, x23, x24, x25, x26, x27, x28, x29, x30, x31, x32, x33, x34, x35, x36, x37, x38, x39, x40, x41, x42, x43, x44, x45, x46, x47, x48, x49, x50, x51, x52, x53, x54, x55, x56, x57, x58, x59, x60, x61, x62, x63, x64, x65, x66, x67, x68, x69, x70, x71, x72, x73, x74, x75, x76, x77, x78, x79, x80, x81, x82, x83, x84, x85, x86, x87, x88, x89, x90, x91, x92, x93, x94, x95, x96, x97, x98, x99, x100, x101, x102, x103, x104, x105, x106, x107, x108, x109, x110, x111, x112, x113, x114, x115, x116, x117, x118, x119, x120, x121, x122, x123, x124, x125, x126, x127, x128, x129, x130, x131, x132, x133, x134, x135, x136, x137, x138, x139, x140, x141, x142, x143, x144, x145, x146, x147, x148, x149, x150, x151, x152, x153, x154, x155, x156, x157, x158, x159, x160, x161, x162, x163, x164, x165, x166, x167, x168, x169, x170, x171, x172, x173, x174, x175, x176, x177, x178, x179, x180, x181, x182, x183, x184, x185, x186, x187, x188, x189, x190, x191, x192, x193, x194, x195, x196, x197, x198, x199, x200, x201, x202, x203, x204, x205, x206, x207, x208, x209, x210, x211, x212, x213, x214, x215, x216, x217, x218, x219, x220, x221, x222, x223, x224, x225, x226, x227, x228, x229, x230, x231, x232, x233, x234, x235], []⟩ wc := by
  conv in restC _ _ => whnf
  have HO := Lib.hid hO
  have HBB := Lib.hid hB
  obtain ⟨c0, c1, c2⟩ := HI.out.keep hB
  clear hO hB
  obtain ⟨bl, hbl⟩ : ∃ bl, Hid (bl = decide (V.ps.length < 1 ∨ 6 < V.ps.length)) := ⟨_, rfl⟩
  obtain ⟨g1, hg1⟩ : ∃ g, Hid (((V.ps.length : Int) == 0) = g) := ⟨_, rfl⟩
  obtain ⟨g2, hg2⟩ : ∃ g, Hid (decide ((6 : Int) < (V.ps.length : Int)) = g) := ⟨_, rfl⟩
  have hR : Hid (bl = (g1 || g2)) := by
    rw [Hid, hbl.out, ← hg1.out, ← hg2.out, Bool.eq_iff_iff]
    simp only [decide_eq_true_eq, Bool.or_eq_true, beq_iff_eq]
    omega
  go_upto_region 9 with fail
  refine wp_region_vals0 (ra9 V w.heap.size g1 g2) (ra9o V w.heap.size g1 g2) [1] (by kernel_rfl) ⟨rfl, trivial⟩ ?_ ?_
  · refine opsAll_cons ?_ (opsAll_cons ?_ (opsAll_cons ?_ (opsAll_cons ?_ (opsAll_cons ?_ (opsAll_cons ?_ (opsAll_cons ?_ (opsAll_cons ?_ (opsAll_cons ?_ (opsAll_cons ?_ (opsAll_cons ?_ opsAll_nil))))))))))
    all_goals intro a hk
    · -- slot 49
      exact .inl ⟨wanted_free rfl, q_field (.tmp 1) rfl (show a.eval (.tmp 1) = (.pointer (some ⟨w.heap.size, 0, none⟩)) from hk.old 1 (by kernel_rfl) (by kernel_rfl)) (v := (.pointer (some ⟨w.heap.size, 1, none⟩))) (fun w => by kernel_rfl) rfl⟩
    · -- slot 50
      exact .inl ⟨wanted_free rfl, q_load (.tmp 49) rfl (show a.eval (.tmp 49) = (.pointer (some ⟨w.heap.size, 1, none⟩)) from hk.slot 49 (by kernel_rfl)) (v := (.slice V.pa V.ps.length V.pc)) (fun q => load_at (fun w => by kernel_rfl) (keep q.bel c1)) rfl⟩
    · -- slot 51
      exact .inl ⟨wanted_free rfl, q_len rfl (by kernel_rfl) (show a.eval (.tmp 50) = (.slice V.pa V.ps.length V.pc) from hk.slot 50 (by kernel_rfl)) rfl⟩
    · -- slot 52
      exact .inl ⟨wanted_free rfl, q_bin rfl (show a.eval (.tmp 51) = (.int .i64 (V.ps.length : Int)) from hk.slot 51 (by kernel_rfl)) rfl (v := .bool ((((V.ps.length : Int) : Int) == 0))) (fun w => by kernel_rfl) (congrArg Value.bool (hg1.out))⟩
    · -- slot 53
      exact .inl ⟨wanted_free rfl, q_move (.tmp 52) rfl (show a.eval (.tmp 52) = (.bool g1) from hk.slot 52 (by kernel_rfl))⟩
    · -- slot 54
      cases g1 with
      | true =>
        exact .inr ⟨unwanted_by 53 false (by kernel_rfl) (show a.eval (.tmp 53) = (.bool true) from hk.slot 53 (by kernel_rfl)), rfl⟩
      | false =>
        exact .inl ⟨wanted_by 53 false (by kernel_rfl) (show a.eval (.tmp 53) = (.bool false) from hk.slot 53 (by kernel_rfl)), q_field (.tmp 1) rfl (show a.eval (.tmp 1) = (.pointer (some ⟨w.heap.size, 0, none⟩)) from hk.old 1 (by kernel_rfl) (by kernel_rfl)) (v := (.pointer (some ⟨w.heap.size, 1, none⟩))) (fun w => by kernel_rfl) rfl⟩
    · -- slot 55
      cases g1 with
      | true =>
        exact .inr ⟨unwanted_by 53 false (by kernel_rfl) (show a.eval (.tmp 53) = (.bool true) from hk.slot 53 (by kernel_rfl)), rfl⟩
      | false =>
        exact .inl ⟨wanted_by 53 false (by kernel_rfl) (show a.eval (.tmp 53) = (.bool false) from hk.slot 53 (by kernel_rfl)), q_load (.tmp 54) rfl (show a.eval (.tmp 54) = (.pointer (some ⟨w.heap.size, 1, none⟩)) from hk.slot 54 (by kernel_rfl)) (v := (.slice V.pa V.ps.length V.pc)) (fun q => load_at (fun w => by kernel_rfl) (keep q.bel c1)) rfl⟩
    · -- slot 56
      cases g1 with
      | true =>
        exact .inr ⟨unwanted_by 53 false (by kernel_rfl) (show a.eval (.tmp 53) = (.bool true) from hk.slot 53 (by kernel_rfl)), rfl⟩
      | false =>
        exact .inl ⟨wanted_by 53 false (by kernel_rfl) (show a.eval (.tmp 53) = (.bool false) from hk.slot 53 (by kernel_rfl)), q_len rfl (by kernel_rfl) (show a.eval (.tmp 55) = (.slice V.pa V.ps.length V.pc) from hk.slot 55 (by kernel_rfl)) rfl⟩
    · -- slot 57
      cases g1 with
      | true =>
        exact .inr ⟨unwanted_by 53 false (by kernel_rfl) (show a.eval (.tmp 53) = (.bool true) from hk.slot 53 (by kernel_rfl)), rfl⟩
      | false =>
        exact .inl ⟨wanted_by 53 false (by kernel_rfl) (show a.eval (.tmp 53) = (.bool false) from hk.slot 53 (by kernel_rfl)), q_bin rfl (show a.eval (.tmp 56) = (.int .i64 (V.ps.length : Int)) from hk.slot 56 (by kernel_rfl)) rfl (v := .bool (decide ((6 : Int) < (V.ps.length : Int)))) (fun w => by kernel_rfl) (congrArg Value.bool (hg2.out))⟩
    · -- slot 58
      cases g1 with
      | true =>
        exact .inl ⟨wanted_free rfl, q_pick rfl true (show a.eval (.tmp 53) = (.bool true) from hk.slot 53 (by kernel_rfl)) rfl⟩
      | false =>
        exact .inl ⟨wanted_free rfl, q_pick rfl false (show a.eval (.tmp 53) = (.bool false) from hk.slot 53 (by kernel_rfl)) (show a.eval (.tmp 57) = (.bool g2) from hk.slot 57 (by kernel_rfl))⟩
    · -- slot 4
      exact .inl ⟨wanted_free rfl, q_assign (.tmp 58) rfl (show a.eval (.tmp 58) = (.bool (g1 || g2)) from hk.slot 58 (by kernel_rfl))⟩
  intro a ⟨wd, hbd⟩ hsame hall
  have he := act_same hsame [49, 50, 51, 52, 53, 54, 55, 56, 57, 58, 4] (by kernel_rfl)
  simp only [List.foldl_cons, List.foldl_nil] at he
  rw [show a.eval (.tmp 4) = (.bool bl) from (hall 4 (by kernel_rfl)).trans (congrArg Value.bool hR.out.symm)] at he
  generalize a.eval (.tmp 49) = x49 at he
  generalize a.eval (.tmp 50) = x50 at he
  generalize a.eval (.tmp 51) = x51 at he
  generalize a.eval (.tmp 52) = x52 at he
  generalize a.eval (.tmp 53) = x53 at he
  generalize a.eval (.tmp 54) = x54 at he
  generalize a.eval (.tmp 55) = x55 at he
  generalize a.eval (.tmp 56) = x56 at he
  generalize a.eval (.tmp 57) = x57 at he
  generalize a.eval (.tmp 58) = x58 at he
  simp only [put_lit] at he
  dsimp only [List.set_cons_zero, List.set_cons_succ] at he
  subst he
  clear hsame hall
  go_wp2_with fail
  have HBB := Lib.hid (HBB.out.trans (hbd.mono HBB.out.size))
  have HO := Lib.hid (HO.out.stay hbd)
  obtain ⟨c0, c1, c2⟩ := HI.out.keep HBB.out
  clear hbd
  go_loopw [4, 6] (fun b s wr => ∃ (k : Nat) (q : Bool), b = .bool q ∧ s = .int .i64 k ∧ k ≤ V.ps.length ∧ Hid (q = (bl || !okTo V.ps k)) ∧ Below wd.heap.size wd wr) (fun _ s _ => V.ps.length - (intOf s).toNat)
  case atStart => exact ⟨0, bl, rfl, rfl, Nat.zero_le _, by rw [Hid]; simp [okTo], Below.refl _ _⟩
  case round =>
    obtain ⟨k, b, rfl, rfl, hk, Hb, B⟩ := hrel
    have HBw := Lib.hid (HBB.out.trans (B.mono HBB.out.size))
    obtain ⟨c0, c1, c2⟩ := HI.out.keep HBw.out
    by_cases hlt : k < V.ps.length
    · skip
      have i0 := HV.out.pts.index etP k hlt
      have i1 := HV.out.pts.index etP (k - 1) (by omega)
      have u0 : ∀ q : After wr, _ := fun q => (pts_cells HV.out.pts (HBw.out.trans (q.bel.mono HBw.out.size)) k hlt).1
      have u1 : ∀ q : After wr, _ := fun q => (pts_cells HV.out.pts (HBw.out.trans (q.bel.mono HBw.out.size)) (k - 1) (by omega)).1
      have HBk := Lib.hid B
      have HS := Lib.hid (okTo_succ V.ps k)
      clear B
      obtain ⟨x, hx⟩ : ∃ x : Int, Hid (x = pidAt V.ps k) := ⟨_, rfl⟩
      obtain ⟨y, hy⟩ : ∃ y : Int, Hid (y = pidAt V.ps (k - 1)) := ⟨_, rfl⟩
      simp only [← pidAt_get V.ps k hlt, ← hx.out] at u0
      simp only [← pidAt_get V.ps (k - 1) (by omega), ← hy.out] at u1
      obtain ⟨g1, hg1⟩ : ∃ g, Hid (decide ((x : Int) < 1) = g) := ⟨_, rfl⟩
      obtain ⟨g2, hg2⟩ : ∃ g, Hid (decide ((6 : Int) < x) = g) := ⟨_, rfl⟩
      obtain ⟨g3, hg3⟩ : ∃ g, Hid (decide ((0 : Int) < (k : Int)) = g) := ⟨_, rfl⟩
      obtain ⟨g4, hg4⟩ : ∃ g, Hid (decide ((x : Int) ≤ y) = g) := ⟨_, rfl⟩
      obtain ⟨R, hR⟩ : ∃ R, Hid (R = (((b || g1) || g2) || (g3 && g4))) := ⟨_, rfl⟩
      have HN : Hid (R = (bl || !okTo V.ps (k + 1))) := by
        have e : okAt V.ps k = !((g1 || g2) || (g3 && g4)) := by
          rw [← hg1.out, ← hg2.out, ← hg3.out, ← hg4.out]
          unfold okAt
          rw [← hx.out, ← hy.out, Bool.eq_iff_iff]
          simp only [decide_eq_true_eq, Bool.not_eq_true', Bool.or_eq_false_iff, Bool.and_eq_false_iff, decide_eq_false_iff_not]
          omega
        rw [Hid, HS.out, hR.out, Hb.out, e]
        cases bl <;> cases okTo V.ps k <;> cases g1 <;> cases g2 <;> cases g3 <;> cases g4 <;> rfl
      go_wp2_with fail
      refine wp_region_vals (ra13 V w.heap.size k x y b g1 g2 g3 g4) (ra13o V w.heap.size k x y b g1 g2 g3 g4) [1, 4, 6] (by kernel_rfl) (by kernel_rfl) (by kernel_rfl) ⟨rfl, rfl, rfl, trivial⟩ ?_ ?_
      · refine opsAll_cons ?_ (opsAll_cons ?_ (opsAll_cons ?_ (opsAll_cons ?_ (opsAll_cons ?_ (opsAll_cons ?_ (opsAll_cons ?_ (opsAll_cons ?_ (opsAll_cons ?_ (opsAll_cons ?_ (opsAll_cons ?_ (opsAll_cons ?_ (opsAll_cons ?_ (opsAll_cons ?_ (opsAll_cons ?_ (opsAll_cons ?_ (opsAll_cons ?_ (opsAll_cons ?_ (opsAll_cons ?_ (opsAll_cons ?_ (opsAll_cons ?_ (opsAll_cons ?_ (opsAll_cons ?_ (opsAll_cons ?_ (opsAll_cons ?_ (opsAll_cons ?_ (opsAll_cons ?_ (opsAll_cons ?_ (opsAll_cons ?_ (opsAll_cons ?_ (opsAll_cons ?_ (opsAll_cons ?_ (opsAll_cons ?_ (opsAll_cons ?_ (opsAll_cons ?_ (opsAll_cons ?_ (opsAll_cons ?_ (opsAll_cons ?_ (opsAll_cons ?_ (opsAll_cons ?_ opsAll_nil)))))))))))))))))))))))))))))))))))))))
        all_goals intro a hk
        · -- slot 66
          exact .inl ⟨wanted_free rfl, q_move (.tmp 4) rfl (show a.eval (.tmp 4) = (.bool b) from hk.old 4 (by kernel_rfl) (by kernel_rfl))⟩
        · -- slot 67
          exact .inl ⟨wanted_free rfl, q_move (.tmp 66) rfl (show a.eval (.tmp 66) = (.bool b) from hk.slot 66 (by kernel_rfl))⟩
        · -- slot 68
          cases b with
          | true =>
            exact .inr ⟨unwanted_by 67 false (by kernel_rfl) (show a.eval (.tmp 67) = (.bool true) from hk.slot 67 (by kernel_rfl)), rfl⟩
          | false =>
            exact .inl ⟨wanted_by 67 false (by kernel_rfl) (show a.eval (.tmp 67) = (.bool false) from hk.slot 67 (by kernel_rfl)), q_field (.tmp 1) rfl (show a.eval (.tmp 1) = (.pointer (some ⟨w.heap.size, 0, none⟩)) from hk.old 1 (by kernel_rfl) (by kernel_rfl)) (v := (.pointer (some ⟨w.heap.size, 1, none⟩))) (fun w => by kernel_rfl) rfl⟩
        · -- slot 69
          cases b with
          | true =>
            exact .inr ⟨unwanted_by 67 false (by kernel_rfl) (show a.eval (.tmp 67) = (.bool true) from hk.slot 67 (by kernel_rfl)), rfl⟩
          | false =>
            exact .inl ⟨wanted_by 67 false (by kernel_rfl) (show a.eval (.tmp 67) = (.bool false) from hk.slot 67 (by kernel_rfl)), q_load (.tmp 68) rfl (show a.eval (.tmp 68) = (.pointer (some ⟨w.heap.size, 1, none⟩)) from hk.slot 68 (by kernel_rfl)) (v := (.slice V.pa V.ps.length V.pc)) (fun q => load_at (fun w => by kernel_rfl) (keep q.bel c1)) rfl⟩
        · -- slot 70
          cases b with
          | true =>
            exact .inr ⟨unwanted_by 67 false (by kernel_rfl) (show a.eval (.tmp 67) = (.bool true) from hk.slot 67 (by kernel_rfl)), rfl⟩
          | false =>
            exact .inl ⟨wanted_by 67 false (by kernel_rfl) (show a.eval (.tmp 67) = (.bool false) from hk.slot 67 (by kernel_rfl)), q_move (.tmp 6) rfl (show a.eval (.tmp 6) = (.int .i64 (k : Int)) from hk.old 6 (by kernel_rfl) (by kernel_rfl))⟩
        · -- slot 71
          cases b with
          | true =>
            exact .inr ⟨unwanted_by 67 false (by kernel_rfl) (show a.eval (.tmp 67) = (.bool true) from hk.slot 67 (by kernel_rfl)), rfl⟩
          | false =>
            exact .inl ⟨wanted_by 67 false (by kernel_rfl) (show a.eval (.tmp 67) = (.bool false) from hk.slot 67 (by kernel_rfl)), q_index (.tmp 69) (.tmp 70) rfl (show a.eval (.tmp 69) = (.slice V.pa V.ps.length V.pc) from hk.slot 69 (by kernel_rfl)) (show a.eval (.tmp 70) = (.int .i64 (k : Int)) from hk.slot 70 (by kernel_rfl)) (v := (.pointer (some (ad V.pa (k * 5))))) (fun w => i0 w) rfl⟩
        · -- slot 72
          cases b with
          | true =>
            exact .inr ⟨unwanted_by 67 false (by kernel_rfl) (show a.eval (.tmp 67) = (.bool true) from hk.slot 67 (by kernel_rfl)), rfl⟩
          | false =>
            exact .inl ⟨wanted_by 67 false (by kernel_rfl) (show a.eval (.tmp 67) = (.bool false) from hk.slot 67 (by kernel_rfl)), q_field (.tmp 71) rfl (show a.eval (.tmp 71) = (.pointer (some (ad V.pa (k * 5)))) from hk.slot 71 (by kernel_rfl)) (v := (.pointer (some (ad V.pa (k * 5))))) (fun w => by kernel_rfl) rfl⟩
        · -- slot 73
          cases b with
          | true =>
            exact .inr ⟨unwanted_by 67 false (by kernel_rfl) (show a.eval (.tmp 67) = (.bool true) from hk.slot 67 (by kernel_rfl)), rfl⟩
          | false =>
            exact .inl ⟨wanted_by 67 false (by kernel_rfl) (show a.eval (.tmp 67) = (.bool false) from hk.slot 67 (by kernel_rfl)), q_load (.tmp 72) rfl (show a.eval (.tmp 72) = (.pointer (some (ad V.pa (k * 5)))) from hk.slot 72 (by kernel_rfl)) (v := (.int .i64 x)) (fun q => load_at (fun w => by kernel_rfl) (u0 q)) rfl⟩
        · -- slot 74
          cases b with
          | true =>
            exact .inr ⟨unwanted_by 67 false (by kernel_rfl) (show a.eval (.tmp 67) = (.bool true) from hk.slot 67 (by kernel_rfl)), rfl⟩
          | false =>
            exact .inl ⟨wanted_by 67 false (by kernel_rfl) (show a.eval (.tmp 67) = (.bool false) from hk.slot 67 (by kernel_rfl)), q_bin rfl (show a.eval (.tmp 73) = (.int .i64 x) from hk.slot 73 (by kernel_rfl)) rfl (v := .bool (decide ((x : Int) < 1))) (fun w => by kernel_rfl) (congrArg Value.bool (hg1.out))⟩
        · -- slot 75
          cases b with
          | true =>
            exact .inl ⟨wanted_free rfl, q_pick rfl true (show a.eval (.tmp 67) = (.bool true) from hk.slot 67 (by kernel_rfl)) rfl⟩
          | false =>
            exact .inl ⟨wanted_free rfl, q_pick rfl false (show a.eval (.tmp 67) = (.bool false) from hk.slot 67 (by kernel_rfl)) (show a.eval (.tmp 74) = (.bool g1) from hk.slot 74 (by kernel_rfl))⟩
        · -- slot 76
          exact .inl ⟨wanted_free rfl, q_move (.tmp 75) rfl (show a.eval (.tmp 75) = (.bool (b || g1)) from hk.slot 75 (by kernel_rfl))⟩
        · -- slot 77
          cases b with
          | true =>
            exact .inr ⟨unwanted_by 76 false (by kernel_rfl) (show a.eval (.tmp 76) = (.bool (true || g1)) from hk.slot 76 (by kernel_rfl)), rfl⟩
          | false =>
            cases g1 with
            | true =>
              exact .inr ⟨unwanted_by 76 false (by kernel_rfl) (show a.eval (.tmp 76) = (.bool (false || true)) from hk.slot 76 (by kernel_rfl)), rfl⟩
            | false =>
              exact .inl ⟨wanted_by 76 false (by kernel_rfl) (show a.eval (.tmp 76) = (.bool (false || false)) from hk.slot 76 (by kernel_rfl)), q_field (.tmp 1) rfl (show a.eval (.tmp 1) = (.pointer (some ⟨w.heap.size, 0, none⟩)) from hk.old 1 (by kernel_rfl) (by kernel_rfl)) (v := (.pointer (some ⟨w.heap.size, 1, none⟩))) (fun w => by kernel_rfl) rfl⟩
        · -- slot 78
          cases b with
          | true =>
            exact .inr ⟨unwanted_by 76 false (by kernel_rfl) (show a.eval (.tmp 76) = (.bool (true || g1)) from hk.slot 76 (by kernel_rfl)), rfl⟩
          | false =>
            cases g1 with
            | true =>
              exact .inr ⟨unwanted_by 76 false (by kernel_rfl) (show a.eval (.tmp 76) = (.bool (false || true)) from hk.slot 76 (by kernel_rfl)), rfl⟩
            | false =>
              exact .inl ⟨wanted_by 76 false (by kernel_rfl) (show a.eval (.tmp 76) = (.bool (false || false)) from hk.slot 76 (by kernel_rfl)), q_load (.tmp 77) rfl (show a.eval (.tmp 77) = (.pointer (some ⟨w.heap.size, 1, none⟩)) from hk.slot 77 (by kernel_rfl)) (v := (.slice V.pa V.ps.length V.pc)) (fun q => load_at (fun w => by kernel_rfl) (keep q.bel c1)) rfl⟩
        · -- slot 79
          cases b with
          | true =>
            exact .inr ⟨unwanted_by 76 false (by kernel_rfl) (show a.eval (.tmp 76) = (.bool (true || g1)) from hk.slot 76 (by kernel_rfl)), rfl⟩
          | false =>
            cases g1 with
            | true =>
              exact .inr ⟨unwanted_by 76 false (by kernel_rfl) (show a.eval (.tmp 76) = (.bool (false || true)) from hk.slot 76 (by kernel_rfl)), rfl⟩
            | false =>
              exact .inl ⟨wanted_by 76 false (by kernel_rfl) (show a.eval (.tmp 76) = (.bool (false || false)) from hk.slot 76 (by kernel_rfl)), q_move (.tmp 6) rfl (show a.eval (.tmp 6) = (.int .i64 (k : Int)) from hk.old 6 (by kernel_rfl) (by kernel_rfl))⟩
        · -- slot 80
          cases b with
          | true =>
            exact .inr ⟨unwanted_by 76 false (by kernel_rfl) (show a.eval (.tmp 76) = (.bool (true || g1)) from hk.slot 76 (by kernel_rfl)), rfl⟩
          | false =>
            cases g1 with
            | true =>
              exact .inr ⟨unwanted_by 76 false (by kernel_rfl) (show a.eval (.tmp 76) = (.bool (false || true)) from hk.slot 76 (by kernel_rfl)), rfl⟩
            | false =>
              exact .inl ⟨wanted_by 76 false (by kernel_rfl) (show a.eval (.tmp 76) = (.bool (false || false)) from hk.slot 76 (by kernel_rfl)), q_index (.tmp 78) (.tmp 79) rfl (show a.eval (.tmp 78) = (.slice V.pa V.ps.length V.pc) from hk.slot 78 (by kernel_rfl)) (show a.eval (.tmp 79) = (.int .i64 (k : Int)) from hk.slot 79 (by kernel_rfl)) (v := (.pointer (some (ad V.pa (k * 5))))) (fun w => i0 w) rfl⟩
        · -- slot 81
          cases b with
          | true =>
            exact .inr ⟨unwanted_by 76 false (by kernel_rfl) (show a.eval (.tmp 76) = (.bool (true || g1)) from hk.slot 76 (by kernel_rfl)), rfl⟩
          | false =>
            cases g1 with
            | true =>
              exact .inr ⟨unwanted_by 76 false (by kernel_rfl) (show a.eval (.tmp 76) = (.bool (false || true)) from hk.slot 76 (by kernel_rfl)), rfl⟩
            | false =>
              exact .inl ⟨wanted_by 76 false (by kernel_rfl) (show a.eval (.tmp 76) = (.bool (false || false)) from hk.slot 76 (by kernel_rfl)), q_field (.tmp 80) rfl (show a.eval (.tmp 80) = (.pointer (some (ad V.pa (k * 5)))) from hk.slot 80 (by kernel_rfl)) (v := (.pointer (some (ad V.pa (k * 5))))) (fun w => by kernel_rfl) rfl⟩
        · -- slot 82
          cases b with
          | true =>
            exact .inr ⟨unwanted_by 76 false (by kernel_rfl) (show a.eval (.tmp 76) = (.bool (true || g1)) from hk.slot 76 (by kernel_rfl)), rfl⟩
          | false =>
            cases g1 with
            | true =>
              exact .inr ⟨unwanted_by 76 false (by kernel_rfl) (show a.eval (.tmp 76) = (.bool (false || true)) from hk.slot 76 (by kernel_rfl)), rfl⟩
            | false =>
              exact .inl ⟨wanted_by 76 false (by kernel_rfl) (show a.eval (.tmp 76) = (.bool (false || false)) from hk.slot 76 (by kernel_rfl)), q_load (.tmp 81) rfl (show a.eval (.tmp 81) = (.pointer (some (ad V.pa (k * 5)))) from hk.slot 81 (by kernel_rfl)) (v := (.int .i64 x)) (fun q => load_at (fun w => by kernel_rfl) (u0 q)) rfl⟩
        · -- slot 83
          cases b with
          | true =>
            exact .inr ⟨unwanted_by 76 false (by kernel_rfl) (show a.eval (.tmp 76) = (.bool (true || g1)) from hk.slot 76 (by kernel_rfl)), rfl⟩
          | false =>
            cases g1 with
            | true =>
              exact .inr ⟨unwanted_by 76 false (by kernel_rfl) (show a.eval (.tmp 76) = (.bool (false || true)) from hk.slot 76 (by kernel_rfl)), rfl⟩
            | false =>
              exact .inl ⟨wanted_by 76 false (by kernel_rfl) (show a.eval (.tmp 76) = (.bool (false || false)) from hk.slot 76 (by kernel_rfl)), q_bin rfl (show a.eval (.tmp 82) = (.int .i64 x) from hk.slot 82 (by kernel_rfl)) rfl (v := .bool (decide ((6 : Int) < x))) (fun w => by kernel_rfl) (congrArg Value.bool (hg2.out))⟩
        · -- slot 84
          cases b with
          | true =>
            exact .inl ⟨wanted_free rfl, q_pick rfl true (show a.eval (.tmp 76) = (.bool (true || g1)) from hk.slot 76 (by kernel_rfl)) rfl⟩
          | false =>
            cases g1 with
            | true =>
              exact .inl ⟨wanted_free rfl, q_pick rfl true (show a.eval (.tmp 76) = (.bool (false || true)) from hk.slot 76 (by kernel_rfl)) rfl⟩
            | false =>
              exact .inl ⟨wanted_free rfl, q_pick rfl false (show a.eval (.tmp 76) = (.bool (false || false)) from hk.slot 76 (by kernel_rfl)) (show a.eval (.tmp 83) = (.bool g2) from hk.slot 83 (by kernel_rfl))⟩
        · -- slot 85
          exact .inl ⟨wanted_free rfl, q_move (.tmp 84) rfl (show a.eval (.tmp 84) = (.bool ((b || g1) || g2)) from hk.slot 84 (by kernel_rfl))⟩
        · -- slot 86
          cases b with
          | true =>
            exact .inr ⟨unwanted_by 85 false (by kernel_rfl) (show a.eval (.tmp 85) = (.bool ((true || g1) || g2)) from hk.slot 85 (by kernel_rfl)), rfl⟩
          | false =>
            cases g1 with
            | true =>
              exact .inr ⟨unwanted_by 85 false (by kernel_rfl) (show a.eval (.tmp 85) = (.bool ((false || true) || g2)) from hk.slot 85 (by kernel_rfl)), rfl⟩
            | false =>
              cases g2 with
              | true =>
                exact .inr ⟨unwanted_by 85 false (by kernel_rfl) (show a.eval (.tmp 85) = (.bool ((false || false) || true)) from hk.slot 85 (by kernel_rfl)), rfl⟩
              | false =>
                exact .inl ⟨wanted_by 85 false (by kernel_rfl) (show a.eval (.tmp 85) = (.bool ((false || false) || false)) from hk.slot 85 (by kernel_rfl)), q_move (.tmp 6) rfl (show a.eval (.tmp 6) = (.int .i64 (k : Int)) from hk.old 6 (by kernel_rfl) (by kernel_rfl))⟩
        · -- slot 87
          cases b with
          | true =>
            exact .inr ⟨unwanted_by 85 false (by kernel_rfl) (show a.eval (.tmp 85) = (.bool ((true || g1) || g2)) from hk.slot 85 (by kernel_rfl)), rfl⟩
          | false =>
            cases g1 with
            | true =>
              exact .inr ⟨unwanted_by 85 false (by kernel_rfl) (show a.eval (.tmp 85) = (.bool ((false || true) || g2)) from hk.slot 85 (by kernel_rfl)), rfl⟩
            | false =>
              cases g2 with
              | true =>
                exact .inr ⟨unwanted_by 85 false (by kernel_rfl) (show a.eval (.tmp 85) = (.bool ((false || false) || true)) from hk.slot 85 (by kernel_rfl)), rfl⟩
              | false =>
                exact .inl ⟨wanted_by 85 false (by kernel_rfl) (show a.eval (.tmp 85) = (.bool ((false || false) || false)) from hk.slot 85 (by kernel_rfl)), q_bin rfl (show a.eval (.tmp 86) = (.int .i64 (k : Int)) from hk.slot 86 (by kernel_rfl)) rfl (v := .bool (decide ((0 : Int) < (k : Int)))) (fun w => by kernel_rfl) (congrArg Value.bool (hg3.out))⟩
        · -- slot 88
          cases b with
          | true =>
            exact .inr ⟨unwanted_by 85 false (by kernel_rfl) (show a.eval (.tmp 85) = (.bool ((true || g1) || g2)) from hk.slot 85 (by kernel_rfl)), rfl⟩
          | false =>
            cases g1 with
            | true =>
              exact .inr ⟨unwanted_by 85 false (by kernel_rfl) (show a.eval (.tmp 85) = (.bool ((false || true) || g2)) from hk.slot 85 (by kernel_rfl)), rfl⟩
            | false =>
              cases g2 with
              | true =>
                exact .inr ⟨unwanted_by 85 false (by kernel_rfl) (show a.eval (.tmp 85) = (.bool ((false || false) || true)) from hk.slot 85 (by kernel_rfl)), rfl⟩
              | false =>
                exact .inl ⟨wanted_by 85 false (by kernel_rfl) (show a.eval (.tmp 85) = (.bool ((false || false) || false)) from hk.slot 85 (by kernel_rfl)), q_move (.tmp 87) rfl (show a.eval (.tmp 87) = (.bool g3) from hk.slot 87 (by kernel_rfl))⟩
        · -- slot 89
          cases b with
          | true =>
            exact .inr ⟨unwanted_undef 88 true (by kernel_rfl) (show a.eval (.tmp 88) = undef from hk.slot 88 (by kernel_rfl)), rfl⟩
          | false =>
            cases g1 with
            | true =>
              exact .inr ⟨unwanted_undef 88 true (by kernel_rfl) (show a.eval (.tmp 88) = undef from hk.slot 88 (by kernel_rfl)), rfl⟩
            | false =>
              cases g2 with
              | true =>
                exact .inr ⟨unwanted_undef 88 true (by kernel_rfl) (show a.eval (.tmp 88) = undef from hk.slot 88 (by kernel_rfl)), rfl⟩
              | false =>
                cases g3 with
                | true =>
                  exact .inl ⟨wanted_by 88 true (by kernel_rfl) (show a.eval (.tmp 88) = (.bool true) from hk.slot 88 (by kernel_rfl)), q_field (.tmp 1) rfl (show a.eval (.tmp 1) = (.pointer (some ⟨w.heap.size, 0, none⟩)) from hk.old 1 (by kernel_rfl) (by kernel_rfl)) (v := (.pointer (some ⟨w.heap.size, 1, none⟩))) (fun w => by kernel_rfl) rfl⟩
                | false =>
                  exact .inr ⟨unwanted_by 88 true (by kernel_rfl) (show a.eval (.tmp 88) = (.bool false) from hk.slot 88 (by kernel_rfl)), rfl⟩
        · -- slot 90
          cases b with
          | true =>
            exact .inr ⟨unwanted_undef 88 true (by kernel_rfl) (show a.eval (.tmp 88) = undef from hk.slot 88 (by kernel_rfl)), rfl⟩
          | false =>
            cases g1 with
            | true =>
              exact .inr ⟨unwanted_undef 88 true (by kernel_rfl) (show a.eval (.tmp 88) = undef from hk.slot 88 (by kernel_rfl)), rfl⟩
            | false =>
              cases g2 with
              | true =>
                exact .inr ⟨unwanted_undef 88 true (by kernel_rfl) (show a.eval (.tmp 88) = undef from hk.slot 88 (by kernel_rfl)), rfl⟩
              | false =>
                cases g3 with
                | true =>
                  exact .inl ⟨wanted_by 88 true (by kernel_rfl) (show a.eval (.tmp 88) = (.bool true) from hk.slot 88 (by kernel_rfl)), q_load (.tmp 89) rfl (show a.eval (.tmp 89) = (.pointer (some ⟨w.heap.size, 1, none⟩)) from hk.slot 89 (by kernel_rfl)) (v := (.slice V.pa V.ps.length V.pc)) (fun q => load_at (fun w => by kernel_rfl) (keep q.bel c1)) rfl⟩
                | false =>
                  exact .inr ⟨unwanted_by 88 true (by kernel_rfl) (show a.eval (.tmp 88) = (.bool false) from hk.slot 88 (by kernel_rfl)), rfl⟩
        · -- slot 91
          cases b with
          | true =>
            exact .inr ⟨unwanted_undef 88 true (by kernel_rfl) (show a.eval (.tmp 88) = undef from hk.slot 88 (by kernel_rfl)), rfl⟩
          | false =>
            cases g1 with
            | true =>
              exact .inr ⟨unwanted_undef 88 true (by kernel_rfl) (show a.eval (.tmp 88) = undef from hk.slot 88 (by kernel_rfl)), rfl⟩
            | false =>
              cases g2 with
              | true =>
                exact .inr ⟨unwanted_undef 88 true (by kernel_rfl) (show a.eval (.tmp 88) = undef from hk.slot 88 (by kernel_rfl)), rfl⟩
              | false =>
                cases g3 with
                | true =>
                  exact .inl ⟨wanted_by 88 true (by kernel_rfl) (show a.eval (.tmp 88) = (.bool true) from hk.slot 88 (by kernel_rfl)), q_move (.tmp 6) rfl (show a.eval (.tmp 6) = (.int .i64 (k : Int)) from hk.old 6 (by kernel_rfl) (by kernel_rfl))⟩
                | false =>
                  exact .inr ⟨unwanted_by 88 true (by kernel_rfl) (show a.eval (.tmp 88) = (.bool false) from hk.slot 88 (by kernel_rfl)), rfl⟩
        · -- slot 92
          cases b with
          | true =>
            exact .inr ⟨unwanted_undef 88 true (by kernel_rfl) (show a.eval (.tmp 88) = undef from hk.slot 88 (by kernel_rfl)), rfl⟩
          | false =>
            cases g1 with
            | true =>
              exact .inr ⟨unwanted_undef 88 true (by kernel_rfl) (show a.eval (.tmp 88) = undef from hk.slot 88 (by kernel_rfl)), rfl⟩
            | false =>
              cases g2 with
              | true =>
                exact .inr ⟨unwanted_undef 88 true (by kernel_rfl) (show a.eval (.tmp 88) = undef from hk.slot 88 (by kernel_rfl)), rfl⟩
              | false =>
                cases g3 with
                | true =>
                  exact .inl ⟨wanted_by 88 true (by kernel_rfl) (show a.eval (.tmp 88) = (.bool true) from hk.slot 88 (by kernel_rfl)), q_index (.tmp 90) (.tmp 91) rfl (show a.eval (.tmp 90) = (.slice V.pa V.ps.length V.pc) from hk.slot 90 (by kernel_rfl)) (show a.eval (.tmp 91) = (.int .i64 (k : Int)) from hk.slot 91 (by kernel_rfl)) (v := (.pointer (some (ad V.pa (k * 5))))) (fun w => i0 w) rfl⟩
                | false =>
                  exact .inr ⟨unwanted_by 88 true (by kernel_rfl) (show a.eval (.tmp 88) = (.bool false) from hk.slot 88 (by kernel_rfl)), rfl⟩
        · -- slot 93
          cases b with
          | true =>
            exact .inr ⟨unwanted_undef 88 true (by kernel_rfl) (show a.eval (.tmp 88) = undef from hk.slot 88 (by kernel_rfl)), rfl⟩
          | false =>
            cases g1 with
            | true =>
              exact .inr ⟨unwanted_undef 88 true (by kernel_rfl) (show a.eval (.tmp 88) = undef from hk.slot 88 (by kernel_rfl)), rfl⟩
            | false =>
              cases g2 with
              | true =>
                exact .inr ⟨unwanted_undef 88 true (by kernel_rfl) (show a.eval (.tmp 88) = undef from hk.slot 88 (by kernel_rfl)), rfl⟩
              | false =>
                cases g3 with
                | true =>
                  exact .inl ⟨wanted_by 88 true (by kernel_rfl) (show a.eval (.tmp 88) = (.bool true) from hk.slot 88 (by kernel_rfl)), q_field (.tmp 92) rfl (show a.eval (.tmp 92) = (.pointer (some (ad V.pa (k * 5)))) from hk.slot 92 (by kernel_rfl)) (v := (.pointer (some (ad V.pa (k * 5))))) (fun w => by kernel_rfl) rfl⟩
                | false =>
                  exact .inr ⟨unwanted_by 88 true (by kernel_rfl) (show a.eval (.tmp 88) = (.bool false) from hk.slot 88 (by kernel_rfl)), rfl⟩
        · -- slot 94
          cases b with
          | true =>
            exact .inr ⟨unwanted_undef 88 true (by kernel_rfl) (show a.eval (.tmp 88) = undef from hk.slot 88 (by kernel_rfl)), rfl⟩
          | false =>
            cases g1 with
            | true =>
              exact .inr ⟨unwanted_undef 88 true (by kernel_rfl) (show a.eval (.tmp 88) = undef from hk.slot 88 (by kernel_rfl)), rfl⟩
            | false =>
              cases g2 with
              | true =>
                exact .inr ⟨unwanted_undef 88 true (by kernel_rfl) (show a.eval (.tmp 88) = undef from hk.slot 88 (by kernel_rfl)), rfl⟩
              | false =>
                cases g3 with
                | true =>
                  exact .inl ⟨wanted_by 88 true (by kernel_rfl) (show a.eval (.tmp 88) = (.bool true) from hk.slot 88 (by kernel_rfl)), q_load (.tmp 93) rfl (show a.eval (.tmp 93) = (.pointer (some (ad V.pa (k * 5)))) from hk.slot 93 (by kernel_rfl)) (v := (.int .i64 x)) (fun q => load_at (fun w => by kernel_rfl) (u0 q)) rfl⟩
                | false =>
                  exact .inr ⟨unwanted_by 88 true (by kernel_rfl) (show a.eval (.tmp 88) = (.bool false) from hk.slot 88 (by kernel_rfl)), rfl⟩
        · -- slot 95
          cases b with
          | true =>
            exact .inr ⟨unwanted_undef 88 true (by kernel_rfl) (show a.eval (.tmp 88) = undef from hk.slot 88 (by kernel_rfl)), rfl⟩
          | false =>
            cases g1 with
            | true =>
              exact .inr ⟨unwanted_undef 88 true (by kernel_rfl) (show a.eval (.tmp 88) = undef from hk.slot 88 (by kernel_rfl)), rfl⟩
            | false =>
              cases g2 with
              | true =>
                exact .inr ⟨unwanted_undef 88 true (by kernel_rfl) (show a.eval (.tmp 88) = undef from hk.slot 88 (by kernel_rfl)), rfl⟩
              | false =>
                cases g3 with
                | true =>
                  exact .inl ⟨wanted_by 88 true (by kernel_rfl) (show a.eval (.tmp 88) = (.bool true) from hk.slot 88 (by kernel_rfl)), q_field (.tmp 1) rfl (show a.eval (.tmp 1) = (.pointer (some ⟨w.heap.size, 0, none⟩)) from hk.old 1 (by kernel_rfl) (by kernel_rfl)) (v := (.pointer (some ⟨w.heap.size, 1, none⟩))) (fun w => by kernel_rfl) rfl⟩
                | false =>
                  exact .inr ⟨unwanted_by 88 true (by kernel_rfl) (show a.eval (.tmp 88) = (.bool false) from hk.slot 88 (by kernel_rfl)), rfl⟩
        · -- slot 96
          cases b with
          | true =>
            exact .inr ⟨unwanted_undef 88 true (by kernel_rfl) (show a.eval (.tmp 88) = undef from hk.slot 88 (by kernel_rfl)), rfl⟩
          | false =>
            cases g1 with
            | true =>
              exact .inr ⟨unwanted_undef 88 true (by kernel_rfl) (show a.eval (.tmp 88) = undef from hk.slot 88 (by kernel_rfl)), rfl⟩
            | false =>
              cases g2 with
              | true =>
                exact .inr ⟨unwanted_undef 88 true (by kernel_rfl) (show a.eval (.tmp 88) = undef from hk.slot 88 (by kernel_rfl)), rfl⟩
              | false =>
                cases g3 with
                | true =>
                  exact .inl ⟨wanted_by 88 true (by kernel_rfl) (show a.eval (.tmp 88) = (.bool true) from hk.slot 88 (by kernel_rfl)), q_load (.tmp 95) rfl (show a.eval (.tmp 95) = (.pointer (some ⟨w.heap.size, 1, none⟩)) from hk.slot 95 (by kernel_rfl)) (v := (.slice V.pa V.ps.length V.pc)) (fun q => load_at (fun w => by kernel_rfl) (keep q.bel c1)) rfl⟩
                | false =>
                  exact .inr ⟨unwanted_by 88 true (by kernel_rfl) (show a.eval (.tmp 88) = (.bool false) from hk.slot 88 (by kernel_rfl)), rfl⟩
        · -- slot 97
          cases b with
          | true =>
            exact .inr ⟨unwanted_undef 88 true (by kernel_rfl) (show a.eval (.tmp 88) = undef from hk.slot 88 (by kernel_rfl)), rfl⟩
          | false =>
            cases g1 with
            | true =>
              exact .inr ⟨unwanted_undef 88 true (by kernel_rfl) (show a.eval (.tmp 88) = undef from hk.slot 88 (by kernel_rfl)), rfl⟩
            | false =>
              cases g2 with
              | true =>
                exact .inr ⟨unwanted_undef 88 true (by kernel_rfl) (show a.eval (.tmp 88) = undef from hk.slot 88 (by kernel_rfl)), rfl⟩
              | false =>
                cases g3 with
                | true =>
                  exact .inl ⟨wanted_by 88 true (by kernel_rfl) (show a.eval (.tmp 88) = (.bool true) from hk.slot 88 (by kernel_rfl)), q_move (.tmp 6) rfl (show a.eval (.tmp 6) = (.int .i64 (k : Int)) from hk.old 6 (by kernel_rfl) (by kernel_rfl))⟩
                | false =>
                  exact .inr ⟨unwanted_by 88 true (by kernel_rfl) (show a.eval (.tmp 88) = (.bool false) from hk.slot 88 (by kernel_rfl)), rfl⟩
        · -- slot 98
          cases b with
          | true =>
            exact .inr ⟨unwanted_undef 88 true (by kernel_rfl) (show a.eval (.tmp 88) = undef from hk.slot 88 (by kernel_rfl)), rfl⟩
          | false =>
            cases g1 with
            | true =>
              exact .inr ⟨unwanted_undef 88 true (by kernel_rfl) (show a.eval (.tmp 88) = undef from hk.slot 88 (by kernel_rfl)), rfl⟩
            | false =>
              cases g2 with
              | true =>
                exact .inr ⟨unwanted_undef 88 true (by kernel_rfl) (show a.eval (.tmp 88) = undef from hk.slot 88 (by kernel_rfl)), rfl⟩
              | false =>
                cases g3 with
                | true =>
                  exact .inl ⟨wanted_by 88 true (by kernel_rfl) (show a.eval (.tmp 88) = (.bool true) from hk.slot 88 (by kernel_rfl)), q_bin rfl (show a.eval (.tmp 97) = (.int .i64 (k : Int)) from hk.slot 97 (by kernel_rfl)) rfl (v := (.int .i64 ((k - 1 : Nat) : Int))) (fun w => by have := of_decide_eq_true hg3.out; go_simp; exact (IntWalk.i64_in _ (by omega)).trans (by omega)) rfl⟩
                | false =>
                  exact .inr ⟨unwanted_by 88 true (by kernel_rfl) (show a.eval (.tmp 88) = (.bool false) from hk.slot 88 (by kernel_rfl)), rfl⟩
        · -- slot 99
          cases b with
          | true =>
            exact .inr ⟨unwanted_undef 88 true (by kernel_rfl) (show a.eval (.tmp 88) = undef from hk.slot 88 (by kernel_rfl)), rfl⟩
          | false =>
            cases g1 with
            | true =>
              exact .inr ⟨unwanted_undef 88 true (by kernel_rfl) (show a.eval (.tmp 88) = undef from hk.slot 88 (by kernel_rfl)), rfl⟩
            | false =>
              cases g2 with
              | true =>
                exact .inr ⟨unwanted_undef 88 true (by kernel_rfl) (show a.eval (.tmp 88) = undef from hk.slot 88 (by kernel_rfl)), rfl⟩
              | false =>
                cases g3 with
                | true =>
                  exact .inl ⟨wanted_by 88 true (by kernel_rfl) (show a.eval (.tmp 88) = (.bool true) from hk.slot 88 (by kernel_rfl)), q_index (.tmp 96) (.tmp 98) rfl (show a.eval (.tmp 96) = (.slice V.pa V.ps.length V.pc) from hk.slot 96 (by kernel_rfl)) (show a.eval (.tmp 98) = (.int .i64 ((k - 1 : Nat) : Int)) from hk.slot 98 (by kernel_rfl)) (v := (.pointer (some (ad V.pa ((k - 1) * 5))))) (fun w => i1 w) rfl⟩
                | false =>
                  exact .inr ⟨unwanted_by 88 true (by kernel_rfl) (show a.eval (.tmp 88) = (.bool false) from hk.slot 88 (by kernel_rfl)), rfl⟩
        · -- slot 100
          cases b with
          | true =>
            exact .inr ⟨unwanted_undef 88 true (by kernel_rfl) (show a.eval (.tmp 88) = undef from hk.slot 88 (by kernel_rfl)), rfl⟩
          | false =>
            cases g1 with
            | true =>
              exact .inr ⟨unwanted_undef 88 true (by kernel_rfl) (show a.eval (.tmp 88) = undef from hk.slot 88 (by kernel_rfl)), rfl⟩
            | false =>
              cases g2 with
              | true =>
                exact .inr ⟨unwanted_undef 88 true (by kernel_rfl) (show a.eval (.tmp 88) = undef from hk.slot 88 (by kernel_rfl)), rfl⟩
              | false =>
                cases g3 with
                | true =>
                  exact .inl ⟨wanted_by 88 true (by kernel_rfl) (show a.eval (.tmp 88) = (.bool true) from hk.slot 88 (by kernel_rfl)), q_field (.tmp 99) rfl (show a.eval (.tmp 99) = (.pointer (some (ad V.pa ((k - 1) * 5)))) from hk.slot 99 (by kernel_rfl)) (v := (.pointer (some (ad V.pa ((k - 1) * 5))))) (fun w => by kernel_rfl) rfl⟩
                | false =>
                  exact .inr ⟨unwanted_by 88 true (by kernel_rfl) (show a.eval (.tmp 88) = (.bool false) from hk.slot 88 (by kernel_rfl)), rfl⟩
        · -- slot 101
          cases b with
          | true =>
            exact .inr ⟨unwanted_undef 88 true (by kernel_rfl) (show a.eval (.tmp 88) = undef from hk.slot 88 (by kernel_rfl)), rfl⟩
          | false =>
            cases g1 with
            | true =>
              exact .inr ⟨unwanted_undef 88 true (by kernel_rfl) (show a.eval (.tmp 88) = undef from hk.slot 88 (by kernel_rfl)), rfl⟩
            | false =>
              cases g2 with
              | true =>
                exact .inr ⟨unwanted_undef 88 true (by kernel_rfl) (show a.eval (.tmp 88) = undef from hk.slot 88 (by kernel_rfl)), rfl⟩
              | false =>
                cases g3 with
                | true =>
                  exact .inl ⟨wanted_by 88 true (by kernel_rfl) (show a.eval (.tmp 88) = (.bool true) from hk.slot 88 (by kernel_rfl)), q_load (.tmp 100) rfl (show a.eval (.tmp 100) = (.pointer (some (ad V.pa ((k - 1) * 5)))) from hk.slot 100 (by kernel_rfl)) (v := (.int .i64 y)) (fun q => load_at (fun w => by kernel_rfl) (u1 q)) rfl⟩
                | false =>
                  exact .inr ⟨unwanted_by 88 true (by kernel_rfl) (show a.eval (.tmp 88) = (.bool false) from hk.slot 88 (by kernel_rfl)), rfl⟩
        · -- slot 102
          cases b with
          | true =>
            exact .inr ⟨unwanted_undef 88 true (by kernel_rfl) (show a.eval (.tmp 88) = undef from hk.slot 88 (by kernel_rfl)), rfl⟩
          | false =>
            cases g1 with
            | true =>
              exact .inr ⟨unwanted_undef 88 true (by kernel_rfl) (show a.eval (.tmp 88) = undef from hk.slot 88 (by kernel_rfl)), rfl⟩
            | false =>
              cases g2 with
              | true =>
                exact .inr ⟨unwanted_undef 88 true (by kernel_rfl) (show a.eval (.tmp 88) = undef from hk.slot 88 (by kernel_rfl)), rfl⟩
              | false =>
                cases g3 with
                | true =>
                  exact .inl ⟨wanted_by 88 true (by kernel_rfl) (show a.eval (.tmp 88) = (.bool true) from hk.slot 88 (by kernel_rfl)), q_bin rfl (show a.eval (.tmp 94) = (.int .i64 x) from hk.slot 94 (by kernel_rfl)) (show a.eval (.tmp 101) = (.int .i64 y) from hk.slot 101 (by kernel_rfl)) (v := .bool (decide ((x : Int) ≤ y))) (fun w => by kernel_rfl) (congrArg Value.bool (hg4.out))⟩
                | false =>
                  exact .inr ⟨unwanted_by 88 true (by kernel_rfl) (show a.eval (.tmp 88) = (.bool false) from hk.slot 88 (by kernel_rfl)), rfl⟩
        · -- slot 103
          cases b with
          | true =>
            exact .inr ⟨unwanted_by 85 false (by kernel_rfl) (show a.eval (.tmp 85) = (.bool ((true || g1) || g2)) from hk.slot 85 (by kernel_rfl)), rfl⟩
          | false =>
            cases g1 with
            | true =>
              exact .inr ⟨unwanted_by 85 false (by kernel_rfl) (show a.eval (.tmp 85) = (.bool ((false || true) || g2)) from hk.slot 85 (by kernel_rfl)), rfl⟩
            | false =>
              cases g2 with
              | true =>
                exact .inr ⟨unwanted_by 85 false (by kernel_rfl) (show a.eval (.tmp 85) = (.bool ((false || false) || true)) from hk.slot 85 (by kernel_rfl)), rfl⟩
              | false =>
                cases g3 with
                | true =>
                  exact .inl ⟨wanted_by 85 false (by kernel_rfl) (show a.eval (.tmp 85) = (.bool ((false || false) || false)) from hk.slot 85 (by kernel_rfl)), q_pick rfl true (show a.eval (.tmp 88) = (.bool true) from hk.slot 88 (by kernel_rfl)) (show a.eval (.tmp 102) = (.bool g4) from hk.slot 102 (by kernel_rfl))⟩
                | false =>
                  exact .inl ⟨wanted_by 85 false (by kernel_rfl) (show a.eval (.tmp 85) = (.bool ((false || false) || false)) from hk.slot 85 (by kernel_rfl)), q_pick rfl false (show a.eval (.tmp 88) = (.bool false) from hk.slot 88 (by kernel_rfl)) rfl⟩
        · -- slot 104
          cases b with
          | true =>
            exact .inl ⟨wanted_free rfl, q_pick rfl true (show a.eval (.tmp 85) = (.bool ((true || g1) || g2)) from hk.slot 85 (by kernel_rfl)) rfl⟩
          | false =>
            cases g1 with
            | true =>
              exact .inl ⟨wanted_free rfl, q_pick rfl true (show a.eval (.tmp 85) = (.bool ((false || true) || g2)) from hk.slot 85 (by kernel_rfl)) rfl⟩
            | false =>
              cases g2 with
              | true =>
                exact .inl ⟨wanted_free rfl, q_pick rfl true (show a.eval (.tmp 85) = (.bool ((false || false) || true)) from hk.slot 85 (by kernel_rfl)) rfl⟩
              | false =>
                exact .inl ⟨wanted_free rfl, q_pick rfl false (show a.eval (.tmp 85) = (.bool ((false || false) || false)) from hk.slot 85 (by kernel_rfl)) (show a.eval (.tmp 103) = (.bool (g3 && g4)) from hk.slot 103 (by kernel_rfl))⟩
        · -- slot 4
          exact .inl ⟨wanted_free rfl, q_assign (.tmp 104) rfl (show a.eval (.tmp 104) = (.bool (((b || g1) || g2) || (g3 && g4))) from hk.slot 104 (by kernel_rfl))⟩
      intro a ⟨w3, hb3⟩ hsame hall
      have he := act_same hsame [66, 67, 68, 69, 70, 71, 72, 73, 74, 75, 76, 77, 78, 79, 80, 81, 82, 83, 84, 85, 86, 87, 88, 89, 90, 91, 92, 93, 94, 95, 96, 97, 98, 99, 100, 101, 102, 103, 104, 4] (by kernel_rfl)
      simp only [List.foldl_cons, List.foldl_nil] at he
      rw [show a.eval (.tmp 4) = (.bool R) from (hall 4 (by kernel_rfl)).trans (congrArg Value.bool hR.out.symm)] at he
      generalize a.eval (.tmp 66) = x66 at he
      generalize a.eval (.tmp 67) = x67 at he
      generalize a.eval (.tmp 68) = x68 at he
      generalize a.eval (.tmp 69) = x69 at he
      generalize a.eval (.tmp 70) = x70 at he
      generalize a.eval (.tmp 71) = x71 at he
      generalize a.eval (.tmp 72) = x72 at he
      generalize a.eval (.tmp 73) = x73 at he
      generalize a.eval (.tmp 74) = x74 at he
      generalize a.eval (.tmp 75) = x75 at he
      generalize a.eval (.tmp 76) = x76 at he
      generalize a.eval (.tmp 77) = x77 at he
      generalize a.eval (.tmp 78) = x78 at he
      generalize a.eval (.tmp 79) = x79 at he
      generalize a.eval (.tmp 80) = x80 at he
      generalize a.eval (.tmp 81) = x81 at he
      generalize a.eval (.tmp 82) = x82 at he
      generalize a.eval (.tmp 83) = x83 at he
      generalize a.eval (.tmp 84) = x84 at he
      generalize a.eval (.tmp 85) = x85 at he
      generalize a.eval (.tmp 86) = x86 at he
      generalize a.eval (.tmp 87) = x87 at he
      generalize a.eval (.tmp 88) = x88 at he
      generalize a.eval (.tmp 89) = x89 at he
      generalize a.eval (.tmp 90) = x90 at he
      generalize a.eval (.tmp 91) = x91 at he
      generalize a.eval (.tmp 92) = x92 at he
      generalize a.eval (.tmp 93) = x93 at he
      generalize a.eval (.tmp 94) = x94 at he
      generalize a.eval (.tmp 95) = x95 at he
      generalize a.eval (.tmp 96) = x96 at he
      generalize a.eval (.tmp 97) = x97 at he
      generalize a.eval (.tmp 98) = x98 at he
      generalize a.eval (.tmp 99) = x99 at he
      generalize a.eval (.tmp 100) = x100 at he
      generalize a.eval (.tmp 101) = x101 at he
      generalize a.eval (.tmp 102) = x102 at he
      generalize a.eval (.tmp 103) = x103 at he
      generalize a.eval (.tmp 104) = x104 at he
      simp only [put_lit] at he
      dsimp only [List.set_cons_zero, List.set_cons_succ] at he
      subst he
      clear hsame hall
      go_wp2_with fail
      go_roundw
      case rel => exact ⟨k + 1, R, rfl, by go_num, by omega, HN.out, HBk.out.trans (hb3.mono HBk.out.size)⟩
      case measure => simp [intOf]; omega
    · have hk2 : k = V.ps.length := by omega
      have Hb : Hid (b = partsBad V.ps) := by rw [Hid, Hb.out, hk2, okTo_eq, hbl.out]; rfl
      have HO := Lib.hid (HO.out.stay B)
      have HBB := Lib.hid HBw.out
      clear hk2
      go_upto_if 105 with fail
      go_cut [3] (fun s3 wx => ∃ (a : Option Addr) (L : List Int) (c : Nat), s3 = .slice a L.length c ∧ Hid (L = errsTo V 2) ∧ Hid (L.length ≤ 2) ∧ VOwn cZ 1 3 w0.heap.size wx a L c ∧ Below w0.heap.size w0 wx)
      case first =>
        have HT := Lib.hid (errsTo_succ V 1 (show 1 < 5 by decide))
        cases b with
        | true =>
          have HL2 : Hid (L ++ [(120 : Int)] = errsTo V 2) := by rw [Hid, HT.out, ← HL.out]; simp [bads, ← Hb.out]
          go_wp2_with ((with_reducible refine wpList_vapp1 (o := ⟨some 108, .call _, _, _, _, _⟩) etI cZ_len cZ_one (y := 120) (.tmp 106) (.tmp 107) (by with_unfolding_all rfl) (by with_unfolding_all rfl) HO.out (by with_unfolding_all rfl) (by have := HLL.out; omega) HBB.out.size (by with_unfolding_all rfl) (by with_unfolding_all rfl) ?_); intro a4 c4 w4 hO4 hg4 hn4; have HO4 := Lib.hid hO4; have HB4 := Lib.hid (HBB.out.trans (HO.out.grown hg4 HBB.out.size)); clear hO4 hg4 hn4)
          go_meet
          exact ⟨a4, L ++ [120], c4, by simp, HL2.out, by have := HLL.out; rw [Hid, List.length_append, List.length_singleton]; omega, HO4.out, HB4.out⟩
        | false =>
          have HL2 : Hid (L = errsTo V 2) := by rw [Hid, HT.out, ← HL.out]; simp [bads, ← Hb.out]
          go_wp2_with fail
          go_meet
          exact ⟨a, L, c, rfl, HL2.out, by have := HLL.out; rw [Hid]; omega, HO.out, HBB.out⟩
      case rest =>
        obtain ⟨a, L, c, rfl, HL, HLL, hO, hB⟩ := hcut
        clear Hb
        go_step
        exact sec3 w w0 wc V R HR HV HI HB0 hl1 hl2 hl3 a L c HL HLL hO hB _ _ _ _ _ _ _ _ _ _ _ _ _ _ _ _ _ _ _ _ _ _ _ _ _ _ _ _ _ _ _ _ _ _ _ _ _ _ _ _ _ _ _ _ _ _ _ _ _ _ _ _ _ _ _ _ _ _ _ _ _ _ _ _ _ _ _ _ _ _ _ _ _ _ _ _ _ _ _ _ _ _ _ _ _ _ _ _ _ _ _ _ _ _ _ _ _ _ _ _ _ _ _ _ _ _ _ _ _ _ _ _ _ _ _ _ _ _ _ _ _ _ _ _ _ _ _ _ _ _ _ _ _ _ _ _ _ _ _ _ _ _ _ _ _ _ _ _ _ _ _ _ _ _ _ _ _ _ _ _ _ _ _ _ _ _ _ _ _ _ _ _ _ _ _ _ _ _ _ _ _ _ _ _ _ _ _ _ _ _ _ _ _ _ _ _ _ _ _ _ _ _ _ _ _ _ _ _ _ _ _ _ _ _ _ _ _ _ _ _ _ _ _ _ _ _ _ _ _ _ _ _ _ _
end Go.Proofs.Ytpnbaapjjchlbaa

/- Chapter 12, the reference's All, whole: walked. -/
namespace Go.Proofs.Ytpnbaapjjchlbaa
open Go Go.RowKit Go.Cit

def ra6 (V : CfgV) (B k : Nat) (x : Int) (b g1 g2 : Bool) : Nat → Value
  | 24 => (.bool b)
  | 25 => (.bool b)
  | 26 => (bif (!b) then (.pointer (some ⟨B, 0, none⟩)) else undef)
  | 27 => (bif (!b) then (.slice V.wa V.ws.length V.wc) else undef)
  | 28 => (bif (!b) then (.int .i64 (k : Int)) else undef)
  | 29 => (bif (!b) then (.pointer (some (ad V.wa (k * 2)))) else undef)
  | 30 => (bif (!b) then (.pointer (some ⟨(ad V.wa (k * 2)).block, (ad V.wa (k * 2)).off + 1, none⟩)) else undef)
  | 31 => (bif (!b) then (.int .i64 x) else undef)
  | 32 => (bif (!b) then (.bool g1) else undef)
  | 33 => (bif (!b) then (.bool g1) else undef)
  | 34 => (bif ((!b) && g1) then (.agg #[.slice V.wa V.ws.length V.wc, .slice V.pa V.ps.length V.pc, .slice V.ca V.cs.length V.cc]) else undef)
  | 35 => (bif ((!b) && g1) then (.pointer (some ⟨B, 0, none⟩)) else undef)
  | 36 => (bif ((!b) && g1) then (.slice V.wa V.ws.length V.wc) else undef)
  | 37 => (bif ((!b) && g1) then (.int .i64 (k : Int)) else undef)
  | 38 => (bif ((!b) && g1) then (.pointer (some (ad V.wa (k * 2)))) else undef)
  | 39 => (bif ((!b) && g1) then (.pointer (some ⟨(ad V.wa (k * 2)).block, (ad V.wa (k * 2)).off + 1, none⟩)) else undef)
  | 40 => (bif ((!b) && g1) then (.int .i64 x) else undef)
  | 41 => (bif ((!b) && g1) then (.bool g2) else undef)
  | 42 => (bif ((!b) && g1) then (.bool (!g2)) else undef)
  | 43 => (bif (!b) then (.bool (g1 && (!g2))) else undef)
  | 44 => (.bool (b || (g1 && (!g2))))
  | 4 => (.bool (b || (g1 && (!g2))))
  | _ => undef
def ra6o (_ : CfgV) (B k : Nat) (_ : Int) (b _ _ : Bool) : Nat → Value
  | 1 => (.pointer (some ⟨B, 0, none⟩))
  | 4 => (.bool b)
  | 5 => (.int .i64 (k : Int))
  | _ => undef
set_option maxRecDepth 100000 in
set_option maxHeartbeats 16000000 in
theorem refall_calls (w : World) (V : CfgV) (h : V.At w) (hs : SmallV V) : Calls Try.prog 21 #[.agg #[.slice V.wa V.ws.length V.wc, .slice V.pa V.ps.length V.pc, .slice V.ca V.cs.length V.cc]] w fun e w' => ∃ a c, e = .returned (.slice a (errs V).length c) ∧ VOwn cZ 1 3 w.heap.size w' a (errs V) c ∧ Below w.heap.size w w' := by
  obtain ⟨R, HR⟩ : ∃ R, Hid (R = errs V) := ⟨_, rfl⟩
  rw [← HR.out]
  obtain ⟨w0, hw0⟩ : ∃ w0, w0 = w.alloc (.cells #[.slice V.wa V.ws.length V.wc, .slice V.pa V.ps.length V.pc, .slice V.ca V.cs.length V.cc] 26) := ⟨_, rfl⟩
  have B0 : Below w.heap.size w w0 := by rw [hw0]; exact (Below.refl _ w).alloc (Nat.le_refl _) _
  have hI : InBox w0 w.heap.size V := by rw [hw0]; exact inBox_new w V _
  have HV := Lib.hid (h.stay B0)
  have HI := Lib.hid hI
  have HB0 := Lib.hid B0
  have hl1 := h.win.len_le
  have hl2 := h.pts.len_le
  have hl3 := h.chs.len_le
  have HC := Lib.hid (refsmay_calls w0 V.wa V.ws V.wc (h.stay B0).win)
  obtain ⟨m, hm⟩ : ∃ m, Hid (m = mayW V.ws) := ⟨_, rfl⟩
  rw [← hm.out] at HC
  obtain ⟨c0, c1, c2⟩ := hI
  clear h B0
  go_enter Try.func21, Try.ntmps21
  go_wp2_with fail
  rw [← hw0]
  clear hw0
  refine (HC.out).mono ?_
  rintro e w1 ⟨rfl, hb1⟩
  have HB1 := Lib.hid hb1
  clear hb1 c0 c1 c2
  go_wp2_with fail
  go_loopw [4, 5] (fun b s wr => ∃ (k : Nat) (q : Bool), b = .bool q ∧ s = .int .i64 k ∧ k ≤ V.ws.length ∧ Hid (q = (!m || (V.ws.take k).any (winBad V))) ∧ Below w0.heap.size w0 wr) (fun _ s _ => V.ws.length - (intOf s).toNat)
  case atStart => exact ⟨0, !m, rfl, rfl, Nat.zero_le _, by rw [Hid]; simp, HB1.out⟩
  case round =>
    obtain ⟨k, b, rfl, rfl, hk, Hb, B⟩ := hrel
    have HBw := Lib.hid (B)
    obtain ⟨c0, c1, c2⟩ := HI.out.keep HBw.out
    by_cases hlt : k < V.ws.length
    · skip
      have i0 := HV.out.win.index etW k hlt
      have u1 : ∀ q : After wr, _ := fun q => (HV.out.win.stay cWin_len (HBw.out.trans (q.bel.mono HBw.out.size))).field k hlt 1 (by decide) rfl
      have HS := Lib.hid (any_take (winBad V) V.ws k hlt)
      obtain ⟨x, hx⟩ : ∃ x : Int, Hid (x = V.ws[k].part.1) := ⟨V.ws[k].part.1, rfl⟩
      simp only [← hx.out] at u1
      obtain ⟨g1, hg1⟩ : ∃ g, Hid (((x : Int) != 0) = g) := ⟨_, rfl⟩
      obtain ⟨g2, hg2⟩ : ∃ g, Hid (hasP V.ps x = g) := ⟨_, rfl⟩
      have HC2 : Hid (∀ q : After wr, Calls Try.prog 60 #[.agg #[.slice V.wa V.ws.length V.wc, .slice V.pa V.ps.length V.pc, .slice V.ca V.cs.length V.cc], .int .i64 x] q.to fun e w' => e = .returned (.bool g2) ∧ Below q.to.heap.size q.to w') := fun q => by
        have := refhas_calls q.to V (HV.out.stay (HBw.out.trans (q.bel.mono HBw.out.size))) x
        rwa [hg2.out] at this
      obtain ⟨R, hR⟩ : ∃ R, Hid (R = (b || (g1 && (!g2)))) := ⟨_, rfl⟩
      have HN : Hid (R = (!m || (V.ws.take (k + 1)).any (winBad V))) := by
        have e : winBad V V.ws[k] = (g1 && (!g2)) := by
          unfold winBad
          rw [← hx.out, hg2.out, ← hg1.out]
          congr 1
          rw [Bool.eq_iff_iff]
          simp
        rw [Hid, HS.out, hR.out, Hb.out, e]
        cases m <;> cases (V.ws.take k).any (winBad V) <;> cases g1 <;> cases g2 <;> rfl
      go_wp2_with fail
      refine wp_region_vals (ra6 V w.heap.size k x b g1 g2) (ra6o V w.heap.size k x b g1 g2) [1, 4, 5] (by kernel_rfl) (by kernel_rfl) (by kernel_rfl) ⟨rfl, rfl, rfl, trivial⟩ ?_ ?_
      · refine opsAll_cons ?_ (opsAll_cons ?_ (opsAll_cons ?_ (opsAll_cons ?_ (opsAll_cons ?_ (opsAll_cons ?_ (opsAll_cons ?_ (opsAll_cons ?_ (opsAll_cons ?_ (opsAll_cons ?_ (opsAll_cons ?_ (opsAll_cons ?_ (opsAll_cons ?_ (opsAll_cons ?_ (opsAll_cons ?_ (opsAll_cons ?_ (opsAll_cons ?_ (opsAll_cons ?_ (opsAll_cons ?_ (opsAll_cons ?_ (opsAll_cons ?_ (opsAll_cons ?_ opsAll_nil)))))))))))))))))))))
        all_goals intro a hk
        · -- slot 24
          exact .inl ⟨wanted_free rfl, q_move (.tmp 4) rfl (show a.eval (.tmp 4) = (.bool b) from hk.old 4 (by kernel_rfl) (by kernel_rfl))⟩
        · -- slot 25
          exact .inl ⟨wanted_free rfl, q_move (.tmp 24) rfl (show a.eval (.tmp 24) = (.bool b) from hk.slot 24 (by kernel_rfl))⟩
        · -- slot 26
          cases b with
          | true =>
            exact .inr ⟨unwanted_by 25 false (by kernel_rfl) (show a.eval (.tmp 25) = (.bool true) from hk.slot 25 (by kernel_rfl)), rfl⟩
          | false =>
            exact .inl ⟨wanted_by 25 false (by kernel_rfl) (show a.eval (.tmp 25) = (.bool false) from hk.slot 25 (by kernel_rfl)), q_field (.tmp 1) rfl (show a.eval (.tmp 1) = (.pointer (some ⟨w.heap.size, 0, none⟩)) from hk.old 1 (by kernel_rfl) (by kernel_rfl)) (v := (.pointer (some ⟨w.heap.size, 0, none⟩))) (fun w => by kernel_rfl) rfl⟩
        · -- slot 27
          cases b with
          | true =>
            exact .inr ⟨unwanted_by 25 false (by kernel_rfl) (show a.eval (.tmp 25) = (.bool true) from hk.slot 25 (by kernel_rfl)), rfl⟩
          | false =>
            exact .inl ⟨wanted_by 25 false (by kernel_rfl) (show a.eval (.tmp 25) = (.bool false) from hk.slot 25 (by kernel_rfl)), q_load (.tmp 26) rfl (show a.eval (.tmp 26) = (.pointer (some ⟨w.heap.size, 0, none⟩)) from hk.slot 26 (by kernel_rfl)) (v := (.slice V.wa V.ws.length V.wc)) (fun q => load_at (fun w => by kernel_rfl) (keep q.bel c0)) rfl⟩
        · -- slot 28
          cases b with
          | true =>
            exact .inr ⟨unwanted_by 25 false (by kernel_rfl) (show a.eval (.tmp 25) = (.bool true) from hk.slot 25 (by kernel_rfl)), rfl⟩
          | false =>
            exact .inl ⟨wanted_by 25 false (by kernel_rfl) (show a.eval (.tmp 25) = (.bool false) from hk.slot 25 (by kernel_rfl)), q_move (.tmp 5) rfl (show a.eval (.tmp 5) = (.int .i64 (k : Int)) from hk.old 5 (by kernel_rfl) (by kernel_rfl))⟩
        · -- slot 29
          cases b with
          | true =>
            exact .inr ⟨unwanted_by 25 false (by kernel_rfl) (show a.eval (.tmp 25) = (.bool true) from hk.slot 25 (by kernel_rfl)), rfl⟩
          | false =>
            exact .inl ⟨wanted_by 25 false (by kernel_rfl) (show a.eval (.tmp 25) = (.bool false) from hk.slot 25 (by kernel_rfl)), q_index (.tmp 27) (.tmp 28) rfl (show a.eval (.tmp 27) = (.slice V.wa V.ws.length V.wc) from hk.slot 27 (by kernel_rfl)) (show a.eval (.tmp 28) = (.int .i64 (k : Int)) from hk.slot 28 (by kernel_rfl)) (v := (.pointer (some (ad V.wa (k * 2))))) (fun w => i0 w) rfl⟩
        · -- slot 30
          cases b with
          | true =>
            exact .inr ⟨unwanted_by 25 false (by kernel_rfl) (show a.eval (.tmp 25) = (.bool true) from hk.slot 25 (by kernel_rfl)), rfl⟩
          | false =>
            exact .inl ⟨wanted_by 25 false (by kernel_rfl) (show a.eval (.tmp 25) = (.bool false) from hk.slot 25 (by kernel_rfl)), q_field (.tmp 29) rfl (show a.eval (.tmp 29) = (.pointer (some (ad V.wa (k * 2)))) from hk.slot 29 (by kernel_rfl)) (v := (.pointer (some ⟨(ad V.wa (k * 2)).block, (ad V.wa (k * 2)).off + 1, none⟩))) (fun w => by kernel_rfl) rfl⟩
        · -- slot 31
          cases b with
          | true =>
            exact .inr ⟨unwanted_by 25 false (by kernel_rfl) (show a.eval (.tmp 25) = (.bool true) from hk.slot 25 (by kernel_rfl)), rfl⟩
          | false =>
            exact .inl ⟨wanted_by 25 false (by kernel_rfl) (show a.eval (.tmp 25) = (.bool false) from hk.slot 25 (by kernel_rfl)), q_load (.tmp 30) rfl (show a.eval (.tmp 30) = (.pointer (some ⟨(ad V.wa (k * 2)).block, (ad V.wa (k * 2)).off + 1, none⟩)) from hk.slot 30 (by kernel_rfl)) (v := (.int .i64 x)) (fun q => load_at (fun w => by kernel_rfl) (u1 q)) rfl⟩
        · -- slot 32
          cases b with
          | true =>
            exact .inr ⟨unwanted_by 25 false (by kernel_rfl) (show a.eval (.tmp 25) = (.bool true) from hk.slot 25 (by kernel_rfl)), rfl⟩
          | false =>
            exact .inl ⟨wanted_by 25 false (by kernel_rfl) (show a.eval (.tmp 25) = (.bool false) from hk.slot 25 (by kernel_rfl)), q_bin rfl (show a.eval (.tmp 31) = (.int .i64 x) from hk.slot 31 (by kernel_rfl)) rfl (v := .bool (((x : Int) != 0))) (fun w => by kernel_rfl) (congrArg Value.bool (hg1.out))⟩
        · -- slot 33
          cases b with
          | true =>
            exact .inr ⟨unwanted_by 25 false (by kernel_rfl) (show a.eval (.tmp 25) = (.bool true) from hk.slot 25 (by kernel_rfl)), rfl⟩
          | false =>
            exact .inl ⟨wanted_by 25 false (by kernel_rfl) (show a.eval (.tmp 25) = (.bool false) from hk.slot 25 (by kernel_rfl)), q_move (.tmp 32) rfl (show a.eval (.tmp 32) = (.bool g1) from hk.slot 32 (by kernel_rfl))⟩
        · -- slot 34
          cases b with
          | true =>
            exact .inr ⟨unwanted_undef 33 true (by kernel_rfl) (show a.eval (.tmp 33) = undef from hk.slot 33 (by kernel_rfl)), rfl⟩
          | false =>
            cases g1 with
            | true =>
              exact .inl ⟨wanted_by 33 true (by kernel_rfl) (show a.eval (.tmp 33) = (.bool true) from hk.slot 33 (by kernel_rfl)), q_load (.tmp 1) rfl (show a.eval (.tmp 1) = (.pointer (some ⟨w.heap.size, 0, none⟩)) from hk.old 1 (by kernel_rfl) (by kernel_rfl)) (v := (.agg #[.slice V.wa V.ws.length V.wc, .slice V.pa V.ps.length V.pc, .slice V.ca V.cs.length V.cc])) (fun q => load3 (fun w => by kernel_rfl) (fun w => by kernel_rfl) (keep q.bel c0) (keep q.bel c1) (keep q.bel c2)) rfl⟩
            | false =>
              exact .inr ⟨unwanted_by 33 true (by kernel_rfl) (show a.eval (.tmp 33) = (.bool false) from hk.slot 33 (by kernel_rfl)), rfl⟩
        · -- slot 35
          cases b with
          | true =>
            exact .inr ⟨unwanted_undef 33 true (by kernel_rfl) (show a.eval (.tmp 33) = undef from hk.slot 33 (by kernel_rfl)), rfl⟩
          | false =>
            cases g1 with
            | true =>
              exact .inl ⟨wanted_by 33 true (by kernel_rfl) (show a.eval (.tmp 33) = (.bool true) from hk.slot 33 (by kernel_rfl)), q_field (.tmp 1) rfl (show a.eval (.tmp 1) = (.pointer (some ⟨w.heap.size, 0, none⟩)) from hk.old 1 (by kernel_rfl) (by kernel_rfl)) (v := (.pointer (some ⟨w.heap.size, 0, none⟩))) (fun w => by kernel_rfl) rfl⟩
            | false =>
              exact .inr ⟨unwanted_by 33 true (by kernel_rfl) (show a.eval (.tmp 33) = (.bool false) from hk.slot 33 (by kernel_rfl)), rfl⟩
        · -- slot 36
          cases b with
          | true =>
            exact .inr ⟨unwanted_undef 33 true (by kernel_rfl) (show a.eval (.tmp 33) = undef from hk.slot 33 (by kernel_rfl)), rfl⟩
          | false =>
            cases g1 with
            | true =>
              exact .inl ⟨wanted_by 33 true (by kernel_rfl) (show a.eval (.tmp 33) = (.bool true) from hk.slot 33 (by kernel_rfl)), q_load (.tmp 35) rfl (show a.eval (.tmp 35) = (.pointer (some ⟨w.heap.size, 0, none⟩)) from hk.slot 35 (by kernel_rfl)) (v := (.slice V.wa V.ws.length V.wc)) (fun q => load_at (fun w => by kernel_rfl) (keep q.bel c0)) rfl⟩
            | false =>
              exact .inr ⟨unwanted_by 33 true (by kernel_rfl) (show a.eval (.tmp 33) = (.bool false) from hk.slot 33 (by kernel_rfl)), rfl⟩
        · -- slot 37
          cases b with
          | true =>
            exact .inr ⟨unwanted_undef 33 true (by kernel_rfl) (show a.eval (.tmp 33) = undef from hk.slot 33 (by kernel_rfl)), rfl⟩
          | false =>
            cases g1 with
            | true =>
              exact .inl ⟨wanted_by 33 true (by kernel_rfl) (show a.eval (.tmp 33) = (.bool true) from hk.slot 33 (by kernel_rfl)), q_move (.tmp 5) rfl (show a.eval (.tmp 5) = (.int .i64 (k : Int)) from hk.old 5 (by kernel_rfl) (by kernel_rfl))⟩
            | false =>
              exact .inr ⟨unwanted_by 33 true (by kernel_rfl) (show a.eval (.tmp 33) = (.bool false) from hk.slot 33 (by kernel_rfl)), rfl⟩
        · -- slot 38
          cases b with
          | true =>
            exact .inr ⟨unwanted_undef 33 true (by kernel_rfl) (show a.eval (.tmp 33) = undef from hk.slot 33 (by kernel_rfl)), rfl⟩
          | false =>
            cases g1 with
            | true =>
              exact .inl ⟨wanted_by 33 true (by kernel_rfl) (show a.eval (.tmp 33) = (.bool true) from hk.slot 33 (by kernel_rfl)), q_index (.tmp 36) (.tmp 37) rfl (show a.eval (.tmp 36) = (.slice V.wa V.ws.length V.wc) from hk.slot 36 (by kernel_rfl)) (show a.eval (.tmp 37) = (.int .i64 (k : Int)) from hk.slot 37 (by kernel_rfl)) (v := (.pointer (some (ad V.wa (k * 2))))) (fun w => i0 w) rfl⟩
            | false =>
              exact .inr ⟨unwanted_by 33 true (by kernel_rfl) (show a.eval (.tmp 33) = (.bool false) from hk.slot 33 (by kernel_rfl)), rfl⟩
        · -- slot 39
          cases b with
          | true =>
            exact .inr ⟨unwanted_undef 33 true (by kernel_rfl) (show a.eval (.tmp 33) = undef from hk.slot 33 (by kernel_rfl)), rfl⟩
          | false =>
            cases g1 with
            | true =>
              exact .inl ⟨wanted_by 33 true (by kernel_rfl) (show a.eval (.tmp 33) = (.bool true) from hk.slot 33 (by kernel_rfl)), q_field (.tmp 38) rfl (show a.eval (.tmp 38) = (.pointer (some (ad V.wa (k * 2)))) from hk.slot 38 (by kernel_rfl)) (v := (.pointer (some ⟨(ad V.wa (k * 2)).block, (ad V.wa (k * 2)).off + 1, none⟩))) (fun w => by kernel_rfl) rfl⟩
            | false =>
              exact .inr ⟨unwanted_by 33 true (by kernel_rfl) (show a.eval (.tmp 33) = (.bool false) from hk.slot 33 (by kernel_rfl)), rfl⟩
        · -- slot 40
          cases b with
          | true =>
            exact .inr ⟨unwanted_undef 33 true (by kernel_rfl) (show a.eval (.tmp 33) = undef from hk.slot 33 (by kernel_rfl)), rfl⟩
          | false =>
            cases g1 with
            | true =>
              exact .inl ⟨wanted_by 33 true (by kernel_rfl) (show a.eval (.tmp 33) = (.bool true) from hk.slot 33 (by kernel_rfl)), q_load (.tmp 39) rfl (show a.eval (.tmp 39) = (.pointer (some ⟨(ad V.wa (k * 2)).block, (ad V.wa (k * 2)).off + 1, none⟩)) from hk.slot 39 (by kernel_rfl)) (v := (.int .i64 x)) (fun q => load_at (fun w => by kernel_rfl) (u1 q)) rfl⟩
            | false =>
              exact .inr ⟨unwanted_by 33 true (by kernel_rfl) (show a.eval (.tmp 33) = (.bool false) from hk.slot 33 (by kernel_rfl)), rfl⟩
        · -- slot 41
          cases b with
          | true =>
            exact .inr ⟨unwanted_undef 33 true (by kernel_rfl) (show a.eval (.tmp 33) = undef from hk.slot 33 (by kernel_rfl)), rfl⟩
          | false =>
            cases g1 with
            | true =>
              exact .inl ⟨wanted_by 33 true (by kernel_rfl) (show a.eval (.tmp 33) = (.bool true) from hk.slot 33 (by kernel_rfl)), q_call rfl rfl #[(.agg #[.slice V.wa V.ws.length V.wc, .slice V.pa V.ps.length V.pc, .slice V.ca V.cs.length V.cc]), (.int .i64 x)] (fun w => by kernel_rfl) (by simp only [List.map_toArray, List.map_cons, List.map_nil, (show a.eval (.tmp 34) = (.agg #[.slice V.wa V.ws.length V.wc, .slice V.pa V.ps.length V.pc, .slice V.ca V.cs.length V.cc]) from hk.slot 34 (by kernel_rfl)), (show a.eval (.tmp 40) = (.int .i64 x) from hk.slot 40 (by kernel_rfl))]) (v := (.bool g2)) (fun q => HC2.out q) rfl⟩
            | false =>
              exact .inr ⟨unwanted_by 33 true (by kernel_rfl) (show a.eval (.tmp 33) = (.bool false) from hk.slot 33 (by kernel_rfl)), rfl⟩
        · -- slot 42
          cases b with
          | true =>
            exact .inr ⟨unwanted_undef 33 true (by kernel_rfl) (show a.eval (.tmp 33) = undef from hk.slot 33 (by kernel_rfl)), rfl⟩
          | false =>
            cases g1 with
            | true =>
              exact .inl ⟨wanted_by 33 true (by kernel_rfl) (show a.eval (.tmp 33) = (.bool true) from hk.slot 33 (by kernel_rfl)), q_not rfl _ (show a.eval (.tmp 41) = (.bool g2) from hk.slot 41 (by kernel_rfl)) rfl⟩
            | false =>
              exact .inr ⟨unwanted_by 33 true (by kernel_rfl) (show a.eval (.tmp 33) = (.bool false) from hk.slot 33 (by kernel_rfl)), rfl⟩
        · -- slot 43
          cases b with
          | true =>
            exact .inr ⟨unwanted_by 25 false (by kernel_rfl) (show a.eval (.tmp 25) = (.bool true) from hk.slot 25 (by kernel_rfl)), rfl⟩
          | false =>
            cases g1 with
            | true =>
              exact .inl ⟨wanted_by 25 false (by kernel_rfl) (show a.eval (.tmp 25) = (.bool false) from hk.slot 25 (by kernel_rfl)), q_pick rfl true (show a.eval (.tmp 33) = (.bool true) from hk.slot 33 (by kernel_rfl)) (show a.eval (.tmp 42) = (.bool (!g2)) from hk.slot 42 (by kernel_rfl))⟩
            | false =>
              exact .inl ⟨wanted_by 25 false (by kernel_rfl) (show a.eval (.tmp 25) = (.bool false) from hk.slot 25 (by kernel_rfl)), q_pick rfl false (show a.eval (.tmp 33) = (.bool false) from hk.slot 33 (by kernel_rfl)) rfl⟩
        · -- slot 44
          cases b with
          | true =>
            exact .inl ⟨wanted_free rfl, q_pick rfl true (show a.eval (.tmp 25) = (.bool true) from hk.slot 25 (by kernel_rfl)) rfl⟩
          | false =>
            exact .inl ⟨wanted_free rfl, q_pick rfl false (show a.eval (.tmp 25) = (.bool false) from hk.slot 25 (by kernel_rfl)) (show a.eval (.tmp 43) = (.bool (g1 && (!g2))) from hk.slot 43 (by kernel_rfl))⟩
        · -- slot 4
          exact .inl ⟨wanted_free rfl, q_assign (.tmp 44) rfl (show a.eval (.tmp 44) = (.bool (b || (g1 && (!g2)))) from hk.slot 44 (by kernel_rfl))⟩
      intro a ⟨w3, hb3⟩ hsame hall
      have he := act_same hsame [24, 25, 26, 27, 28, 29, 30, 31, 32, 33, 34, 35, 36, 37, 38, 39, 40, 41, 42, 43, 44, 4] (by kernel_rfl)
      simp only [List.foldl_cons, List.foldl_nil] at he
      rw [show a.eval (.tmp 4) = (.bool R) from (hall 4 (by kernel_rfl)).trans (congrArg Value.bool hR.out.symm)] at he
      generalize a.eval (.tmp 24) = x24 at he
      generalize a.eval (.tmp 25) = x25 at he
      generalize a.eval (.tmp 26) = x26 at he
      generalize a.eval (.tmp 27) = x27 at he
      generalize a.eval (.tmp 28) = x28 at he
      generalize a.eval (.tmp 29) = x29 at he
      generalize a.eval (.tmp 30) = x30 at he
      generalize a.eval (.tmp 31) = x31 at he
      generalize a.eval (.tmp 32) = x32 at he
      generalize a.eval (.tmp 33) = x33 at he
      generalize a.eval (.tmp 34) = x34 at he
      generalize a.eval (.tmp 35) = x35 at he
      generalize a.eval (.tmp 36) = x36 at he
      generalize a.eval (.tmp 37) = x37 at he
      generalize a.eval (.tmp 38) = x38 at he
      generalize a.eval (.tmp 39) = x39 at he
      generalize a.eval (.tmp 40) = x40 at he
      generalize a.eval (.tmp 41) = x41 at he
      generalize a.eval (.tmp 42) = x42 at he
      generalize a.eval (.tmp 43) = x43 at he
      generalize a.eval (.tmp 44) = x44 at he
      simp only [put_lit] at he
      dsimp only [List.set_cons_zero, List.set_cons_succ] at he
      subst he
      clear hsame hall
      go_wp2_with fail
      go_roundw
      case rel => exact ⟨k + 1, R, rfl, by go_num, by omega, HN.out, HBw.out.trans (hb3.mono HBw.out.size)⟩
      case measure => simp [intOf]; omega
    · have hk2 : k = V.ws.length := by omega
      have Hb : Hid (b = windowsBad V) := by rw [Hid, Hb.out, hk2, List.take_length, hm.out]; rfl
      skip
      have HBB := Lib.hid HBw.out
      clear hk2
      go_upto_if 45 with fail
      go_cut [3] (fun s3 wx => ∃ (a : Option Addr) (L : List Int) (c : Nat), s3 = .slice a L.length c ∧ Hid (L = errsTo V 1) ∧ Hid (L.length ≤ 1) ∧ VOwn cZ 1 3 w0.heap.size wx a L c ∧ Below w0.heap.size w0 wx)
      case first =>
        have HT := Lib.hid (errsTo_succ V 0 (show 0 < 5 by decide))
        cases b with
        | true =>
          have HL2 : Hid ([(90 : Int)] = errsTo V 1) := by rw [Hid, HT.out]; simp [errsTo, bads, ← Hb.out]
          have HOn := Lib.hid (VOwn.nil_ cZ 1 3 w0.heap.size wr)
          go_wp2_with ((with_reducible refine wpList_vapp1 (o := ⟨some 48, .call _, _, _, _, _⟩) etI cZ_len cZ_one (l := []) (y := 90) (.tmp 46) (.tmp 47) (by with_unfolding_all rfl) (by with_unfolding_all rfl) HOn.out (by with_unfolding_all rfl) (by decide) HBB.out.size (by with_unfolding_all rfl) (by with_unfolding_all rfl) ?_); intro a4 c4 w4 hO4 hg4 hn4; have HO4 := Lib.hid hO4; have HB4 := Lib.hid (HBB.out.trans (HOn.out.grown hg4 HBB.out.size)); clear hO4 hg4 hn4)
          go_meet
          exact ⟨a4, [90], c4, rfl, HL2.out, by rw [Hid]; decide, HO4.out, HB4.out⟩
        | false =>
          have HL2 : Hid (([] : List Int) = errsTo V 1) := by rw [Hid, HT.out]; simp [errsTo, bads, ← Hb.out]
          go_wp2_with fail
          go_meet
          exact ⟨none, [], 0, rfl, HL2.out, by rw [Hid]; decide, VOwn.nil_ _ _ _ _ _, HBB.out⟩
      case rest =>
        obtain ⟨a, L, c, rfl, HL, HLL, hO, hB⟩ := hcut
        clear Hb
        go_step
        exact sec2 w w0 wc V R HR HV HI HB0 hl1 hl2 hl3 a L c HL HLL hO hB _ _ _ _ _ _ _ _ _ _ _ _ _ _ _ _ _ _ _ _ _ _ _ _ _ _ _ _ _ _ _ _ _ _ _ _ _ _ _ _ _ _ _ _ _ _ _ _ _ _ _ _ _ _ _ _ _ _ _ _ _ _ _ _ _ _ _ _ _ _ _ _ _ _ _ _ _ _ _ _ _ _ _ _ _ _ _ _ _ _ _ _ _ _ _ _ _ _ _ _ _ _ _ _ _ _ _ _ _ _ _ _ _ _ _ _ _ _ _ _ _ _ _ _ _ _ _ _ _ _ _ _ _ _ _ _ _ _ _ _ _ _ _ _ _ _ _ _ _ _ _ _ _ _ _ _ _ _ _ _ _ _ _ _ _ _ _ _ _ _ _ _ _ _ _ _ _ _ _ _ _ _ _ _ _ _ _ _ _ _ _ _ _ _ _ _ _ _ _ _ _ _ _ _ _ _ _ _ _ _ _ _ _ _ _ _ _ _ _ _ _ _ _ _ _ _ _ _ _ _ _ _ _ _
theorem refAll_is : RefAllIs := fun w V h hs => (refall_calls w V h hs).mono fun _ _ ⟨a, c, he, hO, hb⟩ => ⟨a, c, he, hO.vec cZ_len, hb⟩
end Go.Proofs.Ytpnbaapjjchlbaa

