/- Texts of the proof, one behind the other: ManParse, Plain12. No condition but those that each names. -/
import Derived.Test.YtlholdllibghbaaGreatG29
import Derived.Test.YtlholdllibghbaaGreatG20
import Derived.Test.YtlholdllibghbaaGreatG13
/- manifest.Parse: walked. -/
namespace Go.Proofs.YtlholdllibghbaaGreat
open Go Go.RowKit Go.Cit

def St.tag (s : St) : List UInt8 × St := s.read 32 fTag zeros32
theorem tag_len (s : St) : s.tag.1.length = 32 := read_tag32 s
theorem rdtag_calls {base top w b s} (h : RdAt base top w b s) (ht : top ≤ w.heap.size) : Calls Tryz.prog 58 #[.pointer (some ⟨b, 0, none⟩)] w fun r w' => r = .returned (.agg (s.tag.1.map vb).toArray) ∧ RdAt base top w' b s.tag.2 ∧ Save (· ≠ b) w w' := by
  obtain ⟨a, c, h⟩ := h
  exact rtag_calls h ht
def mp1 (l : List UInt8) : I64 × St := (St.new l).int
def mp2 (l : List UInt8) : List UInt8 × St := (mp1 l).2.tag
def mp3 (l : List UInt8) : I64 × St := (mp2 l).2.int
def mp4 (l : List UInt8) : List UInt8 × St := (mp3 l).2.bytes
def mp5 (l : List UInt8) : List UInt8 × St := (mp4 l).2.tag
def readM (l : List UInt8) : Man := ⟨(mp1 l).1, (mp2 l).1, (mp3 l).1, parK (mp4 l).1, (mp5 l).1⟩
def manZ : Man := ⟨⟨0, by decide⟩, zeros32, ⟨0, by decide⟩, ⟨[], [], []⟩, zeros32⟩
def mparOk (l : List UInt8) : Bool := (decide ((mp5 l).2.fin = 0) && decide (parE (mp4 l).1 = 0)) && canK (readM l)
def mparK (l : List UInt8) : Man := if mparOk l then readM l else manZ
def mparE (l : List UInt8) : Int := if mparOk l then 0 else 140
def verM (n : I64) : ManV := ⟨n, zeros32, ⟨0, by decide⟩, vZ, zeros32⟩
theorem build_ver (ρ : Operand → Value) (x : Operand) (n : I64) (e : ρ x = .int .i64 n.1) (d : Option Tmp) (ty : TypeId) (ps : String) {af} (w : World) :
    (execOp ρ { dst := d, op := Op.build 55 #[(0, x)], type := ty, pos := ps, after := af, guard := none }).run Tryz.prog w = .ok (.value (.agg (cM (verM n)))) w := by
  unfold execOp
  simp only [List.map_toArray, List.map_cons, List.map_nil, e]
  kernel_rfl
structure FreshM (B : Nat) (w : World) (M : ManV) : Prop where
  p32 : M.prev.length = 32
  t32 : M.tag.length = 32
  cfg : FreshV B w M.cfg
theorem FreshM.at {B : Nat} {w : World} {M : ManV} (h : FreshM B w M) : M.At w := ⟨h.p32, h.t32, h.cfg.at⟩
theorem freshM_z (B : Nat) (w : World) : FreshM B w zM := ⟨rfl, rfl, fresh_nil B w⟩
def mpa (b _ : Nat) (C : Array Value) (F E : Int) (x y k : Bool) : Nat → Value
  | 30 => (.pointer (some ⟨b, 0, none⟩))
  | 31 => (.int .i64 F)
  | 32 => (.bool (!x))
  | 33 => (.bool (!x))
  | 34 => (bif (!(!x)) then (.int .i64 E) else undef)
  | 35 => (bif (!(!x)) then (.bool (!y)) else undef)
  | 36 => (.bool ((!x) || (!y)))
  | 37 => (.bool ((!x) || (!y)))
  | 38 => (bif (!((!x) || (!y))) then (.agg C) else undef)
  | 39 => (bif (!((!x) || (!y))) then (.bool k) else undef)
  | 40 => (bif (!((!x) || (!y))) then (.bool (!k)) else undef)
  | 41 => (.bool (((!x) || (!y)) || (!k)))
  | _ => undef
def mpao (b p : Nat) (_ : Array Value) (_ E : Int) (_ _ _ : Bool) : Nat → Value
  | 4 => (.pointer (some ⟨b, 0, none⟩))
  | 5 => (.pointer (some ⟨p, 0, none⟩))
  | 7 => (.int .i64 E)
  | _ => undef
set_option maxRecDepth 100000 in
set_option maxHeartbeats 8000000 in
theorem mparse_calls (w : World) {a : Option Addr} {l : List UInt8} {c : Nat} (h : Row w a l c) : Calls Tryz.prog 21 #[.slice a l.length c] w fun e w' => ∃ S : ManV, e = .returned (.tuple #[.agg (cM S), .int .i64 (mparE l)]) ∧ S.man = mparK l ∧ FreshM w.heap.size w' S ∧ Below w.heap.size w w' := by
  have HAM := Lib.hid (fun ρ d ty ps af w => alloc_man ρ d ty ps (af := af) w)
  have HBM := Lib.hid (fun ρ d ty ps af w => build_man ρ d ty ps (af := af) w)
  obtain ⟨Z, hZ⟩ : ∃ Z, Hid (Z = cM zM) := ⟨_, rfl⟩
  rw [← hZ.out] at HAM HBM
  have HZS : Hid (Z.size = 69 ∧ Z.all (·.oneCell') = true) := by rw [hZ.out]; exact ⟨cM_size rfl rfl, cM_one _⟩
  obtain ⟨R, hR⟩ : ∃ R, R = w.heap.size := ⟨_, rfl⟩
  obtain ⟨w0, hw0⟩ : ∃ w0, w0 = w.alloc (.cells Z 55) := ⟨_, rfl⟩
  have B0 : Below w.heap.size w w0 := by rw [hw0]; exact (Below.refl _ w).alloc (Nat.le_refl _) _
  have hxR : w0.heap[R]? = some (.cells Z 55 (0, 0)) := by rw [hw0, hR]; exact heap_alloc_new _ _
  have HN := Lib.hid (newreader_calls w0 (h.stay B0))
  have H0 := Lib.hid (And.intro hxR B0)
  have HRR := Lib.hid hR
  have HR1 : Hid (w0.heap.size = R + 1) := by rw [Hid, hw0, hR]; simp
  obtain ⟨PE, hPE⟩ : ∃ x, Hid (x = mparE l) := ⟨_, rfl⟩
  obtain ⟨PK, hPK⟩ : ∃ x, Hid (x = mparK l) := ⟨_, rfl⟩
  rw [← hPE.out, ← hPK.out]
  clear h hxR B0
  go_enter Tryz.func21, Tryz.ntmps21
  go_upto_region 1 with (((with_reducible refine wpList_value (o := ⟨some 2, .alloc _, _, _, _, _⟩) (by with_unfolding_all rfl) (HAM.out _ _ _ _ _ _) ?_)))
  rw [← hw0, ← hR]
  clear hw0 hR
  go_wp2_with fail
  refine (HN.out).mono ?_
  rintro e w1 ⟨rfl, hRd, hb1⟩
  obtain ⟨b, hb⟩ : ∃ b, b = w0.heap.size := ⟨_, rfl⟩
  rw [← hb] at hRd
  obtain ⟨n1, hn1⟩ : ∃ x, Hid (x = (mp1 l).1) := ⟨_, rfl⟩
  obtain ⟨s1, hs1⟩ : ∃ x, Hid (x = (mp1 l).2) := ⟨_, rfl⟩
  have hk := rdint_calls hRd
  rw [show (St.new l).int = mp1 l from rfl, ← hn1.out, ← hs1.out] at hk
  have HK := Lib.hid hk
  have HT : Hid (b < w1.heap.size) := hRd.lt
  have H1 := Lib.hid (And.intro (blk_stay H0.out.1 hb1) (H0.out.2.trans (hb1.mono H0.out.2.size)))
  have HBB : Hid (b = R + 1) := by rw [Hid, hb, HR1.out]
  obtain ⟨T, hT⟩ : ∃ T, Hid (T = w1.heap.size) := ⟨_, rfl⟩
  rw [← hT.out] at HK
  clear hRd hb1 hk HN
  rw [← hb]
  clear hb
  go_wp2_with fail
  refine (HK.out).mono ?_
  rintro e w2 ⟨rfl, hRd, hS2⟩
  obtain ⟨p, hp⟩ : ∃ p, p = w2.heap.size := ⟨_, rfl⟩
  have HPT : Hid (T ≤ p) := by rw [Hid, hT.out, hp]; exact hS2.size
  have HBP : Hid (b < p) := by rw [Hid, hp]; have := HT.out; have := hS2.size; omega
  have HR2 := Lib.hid hRd
  have H2 : Hid (w2.heap[R]? = some (.cells Z 55 (0, 0)) ∧ Below w.heap.size w w2) := ⟨(hS2.block R (Array.getElem?_eq_some_iff.1 H1.out.1).1 (by have := HBB.out; omega)).trans H1.out.1, H1.out.2.trans (hS2.below H1.out.2.size (fun k hk => by have := HBB.out; have := HRR.out; omega))⟩
  obtain ⟨M1, hM1⟩ : ∃ M : ManV, Hid (M = verM n1) := ⟨_, rfl⟩
  obtain ⟨C1, hC1⟩ : ∃ C, Hid (C = cM M1) := ⟨_, rfl⟩
  have hbv := fun ρ x e d ty ps af w => build_ver ρ x n1 e d ty ps (af := af) w
  rw [← hM1.out, ← hC1.out] at hbv
  have HBV := Lib.hid hbv
  have HC1 : Hid (C1.size = 69 ∧ C1.all (·.oneCell') = true) := by rw [hC1.out, hM1.out]; exact ⟨cM_size rfl rfl, cM_one _⟩
  have HNW := Lib.hid (heap_alloc_new w2 (.cells Z 55))
  clear hRd hS2 hbv HK H1
  go_upto_region 3 with (first | ((with_reducible refine wpList_value (o := ⟨some 5, .alloc _, _, _, _, _⟩) (by with_unfolding_all rfl) (HAM.out _ _ _ _ _ _) ?_)) | ((with_reducible refine wpList_value (o := ⟨some 12, .build _ _, _, _, _, _⟩) (by with_unfolding_all rfl) (HBV.out _ _ (by with_unfolding_all rfl) _ _ _ _ _) ?_)) | ((with_reducible refine wpList_storeB (o := ⟨none, .store _ (.tmp 5) (.tmp 12), _, _, _, _⟩) rowM (.tmp 5) (.tmp 12) (by with_unfolding_all rfl) (by with_unfolding_all rfl) (by with_unfolding_all rfl) (by with_unfolding_all rfl) (by with_unfolding_all rfl) HNW.out HZS.out.1 HC1.out.1 HC1.out.2 ?_); intro w3 hbw3 hSw3; have HBw3 := Lib.hid hbw3; have HSw3 := Lib.hid hSw3; clear hbw3 hSw3))
  have hwa : Save (· ≠ p) w2 w3 := by
    have h1 : Save (· ≠ p) w2 (w2.alloc (.cells Z 55)) := Save.alloc w2 _
    exact h1.trans (HSw3.out.less (fun k _ hk => by rw [← hp]; exact hk))
  have HS3 : Hid (Save (fun _ => True) w2 w3) := by
    have h1 : Below w2.heap.size w2 (w2.alloc (.cells Z 55)) := (Below.refl _ _).alloc (Nat.le_refl _) _
    exact Save.of (h1.trans (HSw3.out.below (by simp) (fun k hk => by omega)))
  have HI3 : Hid (InM w3 p M1) := by rw [Hid, hp]; exact ⟨by rw [← hC1.out]; exact HBw3.out, by rw [hM1.out]; rfl, by rw [hM1.out]; rfl⟩
  have HR3 := Lib.hid (HR2.out.save HS3.out trivial (fun _ _ _ => trivial))
  have H3 : Hid (w3.heap[R]? = some (.cells Z 55 (0, 0)) ∧ Below w.heap.size w w3) := ⟨(HS3.out.block R (Array.getElem?_eq_some_iff.1 H2.out.1).1 trivial).trans H2.out.1, H2.out.2.trans (HS3.out.below H2.out.2.size (fun _ _ => trivial))⟩
  have HP3 : Hid (T ≤ w3.heap.size) := by have := HI3.out.lt; have := HPT.out; rw [Hid]; omega
  rw [← hp]
  clear hwa HS3 HBw3 HSw3 HR2 H2 HBV HC1 HNW hp
  obtain ⟨P2, hP2⟩ : ∃ x, Hid (x = (mp2 l).1) := ⟨_, rfl⟩
  obtain ⟨s2, hs2⟩ : ∃ x, Hid (x = (mp2 l).2) := ⟨_, rfl⟩
  have HL2 : Hid (P2.length = 32) := by rw [Hid, hP2.out]; exact tag_len _
  have hk := rdtag_calls HR3.out HP3.out
  rw [show s1.tag = mp2 l by rw [hs1.out]; rfl, ← hP2.out, ← hs2.out] at hk
  have HC2 := Lib.hid (tag_cells P2 HL2.out)
  obtain ⟨T2, hT2⟩ : ∃ T, Hid (T = (P2.map vb).toArray) := ⟨_, rfl⟩
  rw [← hT2.out] at hk HC2
  have HK := Lib.hid hk
  have f1 := mf1 p
  have f2 := mf2 p
  have f3 := mf3 p
  have f4 := mf4 p
  clear hk
  go_wp2_with fail
  refine (HK.out).mono ?_
  rintro e w4 ⟨rfl, hRd, hS4⟩
  have hpb : p ≠ b := by have := HBP.out; omega
  have hRb : R ≠ b := by have := HBB.out; omega
  have HI4 := Lib.hid (HI3.out.save hS4 hpb)
  have HR4 := Lib.hid hRd
  have H4 : Hid (w4.heap[R]? = some (.cells Z 55 (0, 0)) ∧ Below w.heap.size w w4) := ⟨(hS4.block R (Array.getElem?_eq_some_iff.1 H3.out.1).1 hRb).trans H3.out.1, H3.out.2.trans (hS4.below H3.out.2.size (fun k hk => by have := HBB.out; have := HRR.out; omega))⟩
  clear hRd hS4 HK HI3 HR3 H3 hpb hRb
  go_upto_region 4 with ((with_reducible refine wpList_storeM (o := ⟨none, .store _ (.tmp 15) (.tmp 14), _, _, _, _⟩) (C := cM M1) tagRow.info (.tmp 15) (.tmp 14) (by with_unfolding_all rfl) (by with_unfolding_all rfl) (by with_unfolding_all rfl) (by with_unfolding_all rfl) (by with_unfolding_all rfl) HC2.out.1 HI4.out.blk (by rw [HI4.out.size]; decide) HC2.out.2 ?_); intro w5 hbw5 hSw5; have HBw5 := Lib.hid hbw5; have HSw5 := Lib.hid hSw5; clear hbw5 hSw5)
  obtain ⟨M2, hM2⟩ : ∃ M : ManV, Hid (M = { M1 with prev := P2 }) := ⟨_, rfl⟩
  have hSp : Save (· ≠ p) w4 w5 := HSw5.out
  have HI5 : Hid (InM w5 p M2) := by
    rw [Hid, hM2.out]
    refine ⟨HBw5.out.trans ?_, HL2.out, HI4.out.t32⟩
    rw [hT2.out, show splA (cM M1) 1 _ = cM { M1 with prev := P2 } from spl_prev HI4.out.p32 HL2.out]
  have HR5 := Lib.hid (HR4.out.newer hSp HPT.out (by have := HBP.out; omega))
  have H5 : Hid (w5.heap[R]? = some (.cells Z 55 (0, 0)) ∧ Below w.heap.size w w5) := ⟨(hSp.block R (Array.getElem?_eq_some_iff.1 H4.out.1).1 (by have := HBB.out; have := HBP.out; omega)).trans H4.out.1, H4.out.2.trans (hSp.below H4.out.2.size (fun k hk => by have := HBB.out; have := HBP.out; have := HRR.out; omega))⟩
  clear hSp HBw5 HSw5 HI4 HR4 H4 HC2
  obtain ⟨n3, hn3⟩ : ∃ x, Hid (x = (mp3 l).1) := ⟨_, rfl⟩
  obtain ⟨s3, hs3⟩ : ∃ x, Hid (x = (mp3 l).2) := ⟨_, rfl⟩
  have hk := rdint_calls HR5.out
  rw [show s2.int = mp3 l by rw [hs2.out]; rfl, ← hn3.out, ← hs3.out] at hk
  have HK := Lib.hid hk
  clear hk
  go_wp2_with fail
  refine (HK.out).mono ?_
  rintro e w6 ⟨rfl, hRd, hS6⟩
  have hpb : p ≠ b := by have := HBP.out; omega
  have hRb : R ≠ b := by have := HBB.out; omega
  have HI6 := Lib.hid (HI5.out.save hS6 hpb)
  have HR6 := Lib.hid hRd
  have H6 : Hid (w6.heap[R]? = some (.cells Z 55 (0, 0)) ∧ Below w.heap.size w w6) := ⟨(hS6.block R (Array.getElem?_eq_some_iff.1 H5.out.1).1 hRb).trans H5.out.1, H5.out.2.trans (hS6.below H5.out.2.size (fun k hk => by have := HBB.out; have := HRR.out; omega))⟩
  have u33 := HI6.out.trial
  have z33 : w6.frozen? ⟨p, 33, none⟩ = false := by simp [World.frozen?, HI6.out.blk]
  clear hRd hS6 HK HI5 HR5 H5 hpb hRb
  obtain ⟨w7, hw7⟩ : ∃ x, x = w6.setCell ⟨p, 33, none⟩ (.int .i64 n3.1) := ⟨_, rfl⟩
  obtain ⟨M3, hM3⟩ : ∃ M : ManV, Hid (M = { M2 with trial := n3 }) := ⟨_, rfl⟩
  have hSp : Save (· ≠ p) w6 w7 := by rw [hw7]; exact Save.set
  have HI7 : Hid (InM w7 p M3) := by rw [Hid, hw7, hM3.out]; exact HI6.out.setTrial n3
  have HR7 := Lib.hid (HR6.out.newer hSp HPT.out (by have := HBP.out; omega))
  have H7 : Hid (w7.heap[R]? = some (.cells Z 55 (0, 0)) ∧ Below w.heap.size w w7) := ⟨(hSp.block R (Array.getElem?_eq_some_iff.1 H6.out.1).1 (by have := HBB.out; have := HBP.out; omega)).trans H6.out.1, H6.out.2.trans (hSp.below H6.out.2.size (fun k hk => by have := HBB.out; have := HBP.out; have := HRR.out; omega))⟩
  obtain ⟨X4, hX4⟩ : ∃ x, Hid (x = (mp4 l).1) := ⟨_, rfl⟩
  obtain ⟨s4, hs4⟩ : ∃ x, Hid (x = (mp4 l).2) := ⟨_, rfl⟩
  have hk := rdbytes_calls HR7.out
  rw [show s3.bytes = mp4 l by rw [hs3.out]; rfl, show mp4 l = (X4, s4) by rw [hX4.out, hs4.out]] at hk
  have HK := Lib.hid hk
  clear hSp HI6 HR6 H6 hk
  go_upto_region 5 with fail
  rw [← hw7]
  clear hw7 u33 z33
  go_wp2_with fail
  refine (HK.out).mono ?_
  rintro e w8 ⟨a8, X8, c8, hX8, rfl, hM8, hRd, hS8⟩
  obtain rfl : X8 = X4 := hX8.out
  have hpb : p ≠ b := by have := HBP.out; omega
  have hRb : R ≠ b := by have := HBB.out; omega
  have HI8 := Lib.hid (HI7.out.save hS8 hpb)
  have HR8 := Lib.hid hRd
  have H8 : Hid (w8.heap[R]? = some (.cells Z 55 (0, 0)) ∧ Below w.heap.size w w8) := ⟨(hS8.block R (Array.getElem?_eq_some_iff.1 H7.out.1).1 hRb).trans H7.out.1, H7.out.2.trans (hS8.below H7.out.2.size (fun k hk => by have := HBB.out; have := HRR.out; omega))⟩
  obtain ⟨E, hE⟩ : ∃ x, Hid (x = parE X8) := ⟨_, rfl⟩
  have hk := parse_calls w8 hM8.row
  rw [← hE.out] at hk
  have HK := Lib.hid hk
  clear hk hM8 hRd hS8 hpb hRb HI7 HR7 H7 hX8
  go_wp2_with fail
  refine (HK.out).mono ?_
  rintro e w9 ⟨U, rfl, hU, hFU, hb9⟩
  have HI9 := Lib.hid (HI8.out.keep hb9)
  have HR9 := Lib.hid (HR8.out.stay hb9)
  have H9 : Hid (w9.heap[R]? = some (.cells Z 55 (0, 0)) ∧ Below w.heap.size w w9) := ⟨blk_stay H8.out.1 hb9, H8.out.2.trans (hb9.mono H8.out.2.size)⟩
  have HU := Lib.hid (And.intro hU hFU)
  have HWP : Hid (p < w8.heap.size) := HI8.out.lt
  obtain ⟨q, hq⟩ : ∃ q, q = w9.heap.size := ⟨_, rfl⟩
  obtain ⟨wa, hwa⟩ : ∃ x, x = w9.alloc (.cells #[.slice U.wa U.ws.length U.wc, .slice U.pa U.ps.length U.pc, .slice U.ca U.cs.length U.cc] 26) := ⟨_, rfl⟩
  have hba : Below w9.heap.size w9 wa := by rw [hwa]; exact (Below.refl _ _).alloc (Nat.le_refl _) _
  have hQI : InBox wa q U := by rw [hwa, hq]; exact inBox_new w9 U _
  obtain ⟨v0, v1, v2⟩ := hQI
  have HIa := Lib.hid (HI9.out.keep hba)
  have HRa := Lib.hid (HR9.out.stay hba)
  have Ha : Hid (wa.heap[R]? = some (.cells Z 55 (0, 0)) ∧ Below w.heap.size w wa) := ⟨blk_stay H9.out.1 hba, H9.out.2.trans (hba.mono H9.out.2.size)⟩
  have HUa := Lib.hid (HU.out.2.stay hba)
  have HCU : Hid ((#[.slice U.wa U.ws.length U.wc, .slice U.pa U.ps.length U.pc, .slice U.ca U.cs.length U.cc] : Array Value).all (·.oneCell') = true) := cU_one U
  clear hU hFU hb9 hba HK HI8 HR8 H8 HI9 HR9 H9
  go_upto_region 6 with fail
  rw [← hwa, ← hq]
  clear hwa hq
  go_upto_region 7 with ((with_reducible refine wpList_storeM (o := ⟨none, .store _ (.tmp 26) (.tmp 25), _, _, _, _⟩) (C := cM M3) rowC.info (.tmp 26) (.tmp 25) (by with_unfolding_all rfl) (by with_unfolding_all rfl) (by with_unfolding_all rfl) (by with_unfolding_all rfl) (by with_unfolding_all rfl) rfl HIa.out.blk (by rw [HIa.out.size]; decide) HCU.out ?_); intro wb hbwb hSwb; have HBwb := Lib.hid hbwb; have HSwb := Lib.hid hSwb; clear hbwb hSwb)
  obtain ⟨M4, hM4⟩ : ∃ M : ManV, Hid (M = { M3 with cfg := U }) := ⟨_, rfl⟩
  have hSp : Save (· ≠ p) wa wb := HSwb.out
  have HIb : Hid (InM wb p M4) := by
    rw [Hid, hM4.out]
    refine ⟨HBwb.out.trans ?_, HIa.out.p32, HIa.out.t32⟩
    rw [show splA (cM M3) 34 _ = cM { M3 with cfg := U } from spl_cfg HIa.out.p32 U]
  have HRb := Lib.hid (HRa.out.newer hSp HPT.out (by have := HBP.out; omega))
  have Hb : Hid (wb.heap[R]? = some (.cells Z 55 (0, 0)) ∧ Below w.heap.size w wb) := ⟨(hSp.block R (Array.getElem?_eq_some_iff.1 Ha.out.1).1 (by have := HBB.out; have := HBP.out; omega)).trans Ha.out.1, Ha.out.2.trans (hSp.below Ha.out.2.size (fun k hk => by have := HBB.out; have := HBP.out; have := HRR.out; omega))⟩
  have HUb : Hid (FreshV w8.heap.size wb U) := HUa.out.saveB hSp (fun k hk => by have := HWP.out; omega)
  have HPb : Hid (T ≤ wb.heap.size) := by have := HIb.out.lt; have := HPT.out; rw [Hid]; omega
  clear hSp HBwb HSwb HIa HRa Ha HUa HCU v0 v1 v2
  obtain ⟨P5, hP5⟩ : ∃ x, Hid (x = (mp5 l).1) := ⟨_, rfl⟩
  obtain ⟨s5, hs5⟩ : ∃ x, Hid (x = (mp5 l).2) := ⟨_, rfl⟩
  have HL5 : Hid (P5.length = 32) := by rw [Hid, hP5.out]; exact tag_len _
  have hk := rdtag_calls HRb.out HPb.out
  rw [show s4.tag = mp5 l by rw [hs4.out]; rfl, ← hP5.out, ← hs5.out] at hk
  have HC5 := Lib.hid (tag_cells P5 HL5.out)
  obtain ⟨T5, hT5⟩ : ∃ T, Hid (T = (P5.map vb).toArray) := ⟨_, rfl⟩
  rw [← hT5.out] at hk HC5
  have HK := Lib.hid hk
  clear hk
  go_wp2_with fail
  refine (HK.out).mono ?_
  rintro e wc ⟨rfl, hRd, hSc⟩
  have hpb : p ≠ b := by have := HBP.out; omega
  have hRb : R ≠ b := by have := HBB.out; omega
  have HIc := Lib.hid (HIb.out.save hSc hpb)
  have HRc := Lib.hid hRd
  have Hc : Hid (wc.heap[R]? = some (.cells Z 55 (0, 0)) ∧ Below w.heap.size w wc) := ⟨(hSc.block R (Array.getElem?_eq_some_iff.1 Hb.out.1).1 hRb).trans Hb.out.1, Hb.out.2.trans (hSc.below Hb.out.2.size (fun k hk => by have := HBB.out; have := HRR.out; omega))⟩
  have HUc : Hid (FreshV w8.heap.size wc U) := HUb.out.saveB hSc (fun k hk => by have := HWP.out; have := HBP.out; omega)
  clear hRd hSc HK HIb HRb Hb HUb hpb hRb
  go_upto_region 8 with ((with_reducible refine wpList_storeM (o := ⟨none, .store _ (.tmp 29) (.tmp 28), _, _, _, _⟩) (C := cM M4) tagRow.info (.tmp 29) (.tmp 28) (by with_unfolding_all rfl) (by with_unfolding_all rfl) (by with_unfolding_all rfl) (by with_unfolding_all rfl) (by with_unfolding_all rfl) HC5.out.1 HIc.out.blk (by rw [HIc.out.size]; decide) HC5.out.2 ?_); intro wd hbwd hSwd; have HBwd := Lib.hid hbwd; have HSwd := Lib.hid hSwd; clear hbwd hSwd)
  obtain ⟨M5, hM5⟩ : ∃ M : ManV, Hid (M = { M4 with tag := P5 }) := ⟨_, rfl⟩
  have hSp : Save (· ≠ p) wc wd := HSwd.out
  have HId : Hid (InM wd p M5) := by
    rw [Hid, hM5.out]
    refine ⟨HBwd.out.trans ?_, HIc.out.p32, HL5.out⟩
    rw [hT5.out, show splA (cM M4) 37 _ = cM { M4 with tag := P5 } from spl_tag HIc.out.p32 HIc.out.t32 HL5.out]
  have HRd := Lib.hid (HRc.out.newer hSp HPT.out (by have := HBP.out; omega))
  have Hd : Hid (wd.heap[R]? = some (.cells Z 55 (0, 0)) ∧ Below w.heap.size w wd) := ⟨(hSp.block R (Array.getElem?_eq_some_iff.1 Hc.out.1).1 (by have := HBB.out; have := HBP.out; omega)).trans Hc.out.1, Hc.out.2.trans (hSp.below Hc.out.2.size (fun k hk => by have := HBB.out; have := HBP.out; have := HRR.out; omega))⟩
  have HUd : Hid (FreshV w8.heap.size wd U) := HUc.out.saveB hSp (fun k hk => by have := HWP.out; omega)
  have HAd : Hid (M5.At wd) := ⟨HId.out.p32, HId.out.t32, by rw [hM5.out, hM4.out]; exact HUd.out.at⟩
  have HMR : Hid (M5.man = readM l) := by
    rw [Hid, hM5.out, hM4.out, hM3.out, hM2.out, hM1.out, hP5.out, hn3.out, hP2.out, hn1.out]
    show (⟨_, _, _, U.cfg, _⟩ : Man) = _
    rw [HU.out.1, hX4.out]; rfl
  have HWR : Hid (w.heap.size ≤ w8.heap.size) := by have := HWP.out; have := HBP.out; have := HBB.out; have := HRR.out; rw [Hid]; omega
  clear hSp HBwd HSwd HIc HRc Hc HUc HC5
  obtain ⟨C, hC⟩ : ∃ C, Hid (C = cM M5) := ⟨_, rfl⟩
  obtain ⟨F, hF⟩ : ∃ F, Hid (F = s5.fin) := ⟨_, rfl⟩
  obtain ⟨x, hx⟩ : ∃ x, Hid (x = decide (F = 0)) := ⟨_, rfl⟩
  obtain ⟨y, hy⟩ : ∃ y, Hid (y = decide (E = 0)) := ⟨_, rfl⟩
  obtain ⟨k, hk⟩ : ∃ k, Hid (k = canM M5) := ⟨_, rfl⟩
  obtain ⟨ok, hok⟩ : ∃ ok, Hid (ok = mparOk l) := ⟨_, rfl⟩
  have HOK : Hid ((((!x) || (!y)) || (!k)) = (!ok)) := by
    rw [Hid, hok.out, mparOk, ← HMR.out, ← canM_man, ← hk.out, ← hX4.out, ← hE.out, ← hy.out, ← hs5.out, ← hF.out, ← hx.out]
    cases x <;> cases y <;> cases k <;> rfl
  have HX : Hid (((F : Int) != 0) = !x) := by rw [Hid, hx.out]; rfl
  have HY : Hid (((E : Int) != 0) = !y) := by rw [Hid, hy.out]; rfl
  have HE : Hid (∀ q : After wd, Calls Tryz.prog 61 #[.pointer (some ⟨b, 0, none⟩)] q.to fun e w' => e = .returned (.int .i64 F) ∧ Below q.to.heap.size q.to w') := fun q => (rdend_calls (HRd.out.stay q.bel)).mono fun e w' ⟨he, hw⟩ => ⟨by rw [he, hF.out], by rw [← hw]; exact Below.refl _ _⟩
  have HC : Hid (∀ q : After wd, Calls Tryz.prog 17 #[.agg C] q.to fun e w' => e = .returned (.bool k) ∧ Below q.to.heap.size q.to w') := fun q => by rw [hC.out, hk.out]; exact mcan_calls q.to M5 (HAd.out.stay q.bel)
  have C5 : ∀ q : After wd, (Instr.loadAt 55 (.pointer (some ⟨p, 0, none⟩))).run Tryz.prog q.to = .ok (.agg C) q.to := fun q => by rw [hC.out]; exact (HId.out.keep q.bel).whole
  refine wp_region_vals0 (mpa b p C F E x y k) (mpao b p C F E x y k) [4, 5, 7] (by kernel_rfl) ⟨rfl, rfl, rfl, trivial⟩ ?_ ?_
  · refine opsAll_cons ?_ (opsAll_cons ?_ (opsAll_cons ?_ (opsAll_cons ?_ (opsAll_cons ?_ (opsAll_cons ?_ (opsAll_cons ?_ (opsAll_cons ?_ (opsAll_cons ?_ (opsAll_cons ?_ (opsAll_cons ?_ (opsAll_cons ?_ opsAll_nil)))))))))))
    all_goals intro a hk
    · -- slot 30
      exact .inl ⟨wanted_free rfl, q_move (.tmp 4) rfl (show a.eval (.tmp 4) = (.pointer (some ⟨b, 0, none⟩)) from hk.old 4 (by kernel_rfl) (by kernel_rfl))⟩
    · -- slot 31
      exact .inl ⟨wanted_free rfl, q_call rfl rfl #[(.pointer (some ⟨b, 0, none⟩))] (fun w => by kernel_rfl) (by simp only [List.map_toArray, List.map_cons, List.map_nil, (show a.eval (.tmp 30) = (.pointer (some ⟨b, 0, none⟩)) from hk.slot 30 (by kernel_rfl))]) (v := (.int .i64 F)) (fun q => HE.out q) rfl⟩
    · -- slot 32
      exact .inl ⟨wanted_free rfl, q_bin rfl (show a.eval (.tmp 31) = (.int .i64 F) from hk.slot 31 (by kernel_rfl)) rfl (v := .bool (((F : Int) != 0))) (fun w => by kernel_rfl) (congrArg Value.bool (HX.out))⟩
    · -- slot 33
      exact .inl ⟨wanted_free rfl, q_move (.tmp 32) rfl (show a.eval (.tmp 32) = (.bool (!x)) from hk.slot 32 (by kernel_rfl))⟩
    · -- slot 34
      cases x with
      | true =>
        exact .inl ⟨wanted_by 33 false (by kernel_rfl) (show a.eval (.tmp 33) = (.bool (!true)) from hk.slot 33 (by kernel_rfl)), q_move (.tmp 7) rfl (show a.eval (.tmp 7) = (.int .i64 E) from hk.old 7 (by kernel_rfl) (by kernel_rfl))⟩
      | false =>
        exact .inr ⟨unwanted_by 33 false (by kernel_rfl) (show a.eval (.tmp 33) = (.bool (!false)) from hk.slot 33 (by kernel_rfl)), rfl⟩
    · -- slot 35
      cases x with
      | true =>
        exact .inl ⟨wanted_by 33 false (by kernel_rfl) (show a.eval (.tmp 33) = (.bool (!true)) from hk.slot 33 (by kernel_rfl)), q_bin rfl (show a.eval (.tmp 34) = (.int .i64 E) from hk.slot 34 (by kernel_rfl)) rfl (v := .bool (((E : Int) != 0))) (fun w => by kernel_rfl) (congrArg Value.bool (HY.out))⟩
      | false =>
        exact .inr ⟨unwanted_by 33 false (by kernel_rfl) (show a.eval (.tmp 33) = (.bool (!false)) from hk.slot 33 (by kernel_rfl)), rfl⟩
    · -- slot 36
      cases x with
      | true =>
        exact .inl ⟨wanted_free rfl, q_pick rfl false (show a.eval (.tmp 33) = (.bool (!true)) from hk.slot 33 (by kernel_rfl)) (show a.eval (.tmp 35) = (.bool (!y)) from hk.slot 35 (by kernel_rfl))⟩
      | false =>
        exact .inl ⟨wanted_free rfl, q_pick rfl true (show a.eval (.tmp 33) = (.bool (!false)) from hk.slot 33 (by kernel_rfl)) rfl⟩
    · -- slot 37
      exact .inl ⟨wanted_free rfl, q_move (.tmp 36) rfl (show a.eval (.tmp 36) = (.bool ((!x) || (!y))) from hk.slot 36 (by kernel_rfl))⟩
    · -- slot 38
      cases x with
      | true =>
        cases y with
        | true =>
          exact .inl ⟨wanted_by 37 false (by kernel_rfl) (show a.eval (.tmp 37) = (.bool ((!true) || (!true))) from hk.slot 37 (by kernel_rfl)), q_load (.tmp 5) rfl (show a.eval (.tmp 5) = (.pointer (some ⟨p, 0, none⟩)) from hk.old 5 (by kernel_rfl) (by kernel_rfl)) (v := (.agg C)) (fun q => C5 q) rfl⟩
        | false =>
          exact .inr ⟨unwanted_by 37 false (by kernel_rfl) (show a.eval (.tmp 37) = (.bool ((!true) || (!false))) from hk.slot 37 (by kernel_rfl)), rfl⟩
      | false =>
        exact .inr ⟨unwanted_by 37 false (by kernel_rfl) (show a.eval (.tmp 37) = (.bool ((!false) || (!y))) from hk.slot 37 (by kernel_rfl)), rfl⟩
    · -- slot 39
      cases x with
      | true =>
        cases y with
        | true =>
          exact .inl ⟨wanted_by 37 false (by kernel_rfl) (show a.eval (.tmp 37) = (.bool ((!true) || (!true))) from hk.slot 37 (by kernel_rfl)), q_call rfl rfl #[(.agg C)] (fun w => by kernel_rfl) (by simp only [List.map_toArray, List.map_cons, List.map_nil, (show a.eval (.tmp 38) = (.agg C) from hk.slot 38 (by kernel_rfl))]) (v := (.bool k)) (fun q => HC.out q) rfl⟩
        | false =>
          exact .inr ⟨unwanted_by 37 false (by kernel_rfl) (show a.eval (.tmp 37) = (.bool ((!true) || (!false))) from hk.slot 37 (by kernel_rfl)), rfl⟩
      | false =>
        exact .inr ⟨unwanted_by 37 false (by kernel_rfl) (show a.eval (.tmp 37) = (.bool ((!false) || (!y))) from hk.slot 37 (by kernel_rfl)), rfl⟩
    · -- slot 40
      cases x with
      | true =>
        cases y with
        | true =>
          exact .inl ⟨wanted_by 37 false (by kernel_rfl) (show a.eval (.tmp 37) = (.bool ((!true) || (!true))) from hk.slot 37 (by kernel_rfl)), q_not rfl _ (show a.eval (.tmp 39) = (.bool k) from hk.slot 39 (by kernel_rfl)) rfl⟩
        | false =>
          exact .inr ⟨unwanted_by 37 false (by kernel_rfl) (show a.eval (.tmp 37) = (.bool ((!true) || (!false))) from hk.slot 37 (by kernel_rfl)), rfl⟩
      | false =>
        exact .inr ⟨unwanted_by 37 false (by kernel_rfl) (show a.eval (.tmp 37) = (.bool ((!false) || (!y))) from hk.slot 37 (by kernel_rfl)), rfl⟩
    · -- slot 41
      cases x with
      | true =>
        cases y with
        | true =>
          exact .inl ⟨wanted_free rfl, q_pick rfl false (show a.eval (.tmp 37) = (.bool ((!true) || (!true))) from hk.slot 37 (by kernel_rfl)) (show a.eval (.tmp 40) = (.bool (!k)) from hk.slot 40 (by kernel_rfl))⟩
        | false =>
          exact .inl ⟨wanted_free rfl, q_pick rfl true (show a.eval (.tmp 37) = (.bool ((!true) || (!false))) from hk.slot 37 (by kernel_rfl)) rfl⟩
      | false =>
        exact .inl ⟨wanted_free rfl, q_pick rfl true (show a.eval (.tmp 37) = (.bool ((!false) || (!y))) from hk.slot 37 (by kernel_rfl)) rfl⟩
  intro a ⟨we, hbe⟩ hsame hall
  have he := act_same hsame [30, 31, 32, 33, 34, 35, 36, 37, 38, 39, 40, 41] (by kernel_rfl)
  simp only [List.foldl_cons, List.foldl_nil] at he
  rw [show a.eval (.tmp 41) = (.bool (!ok)) from (hall 41 (by kernel_rfl)).trans (congrArg Value.bool HOK.out)] at he
  generalize a.eval (.tmp 30) = x30 at he
  generalize a.eval (.tmp 31) = x31 at he
  generalize a.eval (.tmp 32) = x32 at he
  generalize a.eval (.tmp 33) = x33 at he
  generalize a.eval (.tmp 34) = x34 at he
  generalize a.eval (.tmp 35) = x35 at he
  generalize a.eval (.tmp 36) = x36 at he
  generalize a.eval (.tmp 37) = x37 at he
  generalize a.eval (.tmp 38) = x38 at he
  generalize a.eval (.tmp 39) = x39 at he
  generalize a.eval (.tmp 40) = x40 at he
  simp only [put_lit] at he
  dsimp only [List.set_cons_zero, List.set_cons_succ] at he
  subst he
  clear hsame hall
  have HIe := Lib.hid (HId.out.keep hbe)
  have He : Hid (we.heap[R]? = some (.cells Z 55 (0, 0)) ∧ Below w.heap.size w we) := ⟨blk_stay Hd.out.1 hbe, Hd.out.2.trans (hbe.mono Hd.out.2.size)⟩
  have HUe := Lib.hid (HUd.out.stay hbe)
  have hw := HIe.out.whole
  rw [← hC.out] at hw
  have HLe := Lib.hid hw
  have HCS : Hid (C.size = 69 ∧ C.all (·.oneCell') = true) := by rw [hC.out]; exact ⟨HIe.out.size, cM_one _⟩
  clear hw HE HC C5 HX HY HOK
  cases ok with
  | false =>
    go_wp2_with (first | ((with_reducible refine wpList_value (o := ⟨some 42, .build _ _, _, _, _, _⟩) (by with_unfolding_all rfl) (HBM.out _ _ _ _ _ _) ?_)) | ((with_reducible refine wpList_storeB (o := ⟨none, .store _ (.tmp 2) (.tmp 42), _, _, _, _⟩) rowM (.tmp 2) (.tmp 42) (by with_unfolding_all rfl) (by with_unfolding_all rfl) (by with_unfolding_all rfl) (by with_unfolding_all rfl) (by with_unfolding_all rfl) He.out.1 HZS.out.1 HZS.out.1 HZS.out.2 ?_); intro wf hbwf hSwf; have HBwf := Lib.hid hbwf; have HSwf := Lib.hid hSwf; clear hbwf hSwf))
    refine bodyPost_ret (resB2 rowM rfl rfl HBwf.out HZS.out.1) rfl ⟨zM, ?_, ?_, freshM_z _ _, ?_⟩
    · rw [hPE.out, mparE, ← hok.out, hZ.out]; rfl
    · rw [hPK.out, mparK, ← hok.out]; rfl
    · exact He.out.2.trans (HSwf.out.below He.out.2.size (fun k hk => by have := HRR.out; omega))
  | true =>
    go_wp2_with (first | (with_reducible refine wpList_load_op (o := ⟨some 43, .load 55 (.tmp 5), _, _, _, _⟩) (by with_unfolding_all rfl) (by with_unfolding_all rfl) (by with_unfolding_all rfl) HLe.out ?_) | ((with_reducible refine wpList_storeB (o := ⟨none, .store _ (.tmp 2) (.tmp 43), _, _, _, _⟩) rowM (.tmp 2) (.tmp 43) (by with_unfolding_all rfl) (by with_unfolding_all rfl) (by with_unfolding_all rfl) (by with_unfolding_all rfl) (by with_unfolding_all rfl) He.out.1 HZS.out.1 HCS.out.1 HCS.out.2 ?_); intro wf hbwf hSwf; have HBwf := Lib.hid hbwf; have HSwf := Lib.hid hSwf; clear hbwf hSwf))
    refine bodyPost_ret (resB2 rowM rfl rfl HBwf.out HCS.out.1) rfl ⟨M5, ?_, ?_, ⟨HIe.out.p32, HIe.out.t32, ?_⟩, ?_⟩
    · rw [hPE.out, mparE, ← hok.out, hC.out]; rfl
    · rw [hPK.out, mparK, ← hok.out]; exact HMR.out
    · have := HUe.out.saveB HSwf.out (fun k hk => by have := HWP.out; have := HBP.out; have := HBB.out; omega)
      rw [hM5.out, hM4.out]
      exact this.low HWR.out
    · exact He.out.2.trans (HSwf.out.below He.out.2.size (fun k hk => by have := HRR.out; omega))
end Go.Proofs.YtlholdllibghbaaGreat

/- IDs of partitions, told by places; any of a beginning: plain laws. -/
namespace Go.Proofs.YtlholdllibghbaaGreat
open Go Go.RowKit Go.Cit

theorem any_take {α : Type} (p : α → Bool) (l : List α) (k : Nat) (h : k < l.length) : (l.take (k + 1)).any p = ((l.take k).any p || p l[k]) := by
  rw [List.take_succ_eq_append_getElem h, List.any_append]; simp
end Go.Proofs.YtlholdllibghbaaGreat

