/- Texts of the proof, one behind the other: HmacSame, ManPrint, ManTag, ManSeal. No condition but those that each names. -/
import Derived.Test.YtlholdllibghbaaGreatG28
import Derived.Test.YtlholdllibghbaaGreatG26
import Derived.Test.YtlholdllibghbaaGreatG05
import Derived.StillTailTactics
import Derived.Deep.RegionLaw
import Derived.BigRegion
import Derived.Test.YtlholdllibghbaaGreatG04
import Derived.Test.YtlholdllibghbaaGreatG25
import Derived.BigQuiet
import Derived.Deep.QuietTactic
import Derived.Test.YtlholdllibghbaaGreatG19
/- hmac.Same: walked. -/
namespace Go.Proofs.YtlholdllibghbaaGreat
open Go Go.RowKit Go.Cit

theorem or_zero (v x y : UInt8) : bOr v (bXor x y) = 0 ↔ v = 0 ∧ x = y := by
  unfold bOr bXor
  rw [UInt8.or_eq_zero_iff, UInt8.xor_eq_zero_iff]

set_option maxRecDepth 100000 in
set_option maxHeartbeats 2000000 in
theorem hsame_calls (w : World) (l m : List UInt8) (hl : l.length = 32) (hm : m.length = 32) :
    Calls Tryz.prog 81 #[.agg (l.map vb).toArray, .agg (m.map vb).toArray] w fun e w' => e = .returned (.bool (decide (l = m))) ∧ Below w.heap.size w w' := by
  have HLL := Lib.hid hl
  have HML := Lib.hid hm
  have b0 : ArrB 53 ((w.alloc (.cells (l.map vb).toArray 53)).alloc (.cells (m.map vb).toArray 53)) w.heap.size l := (Below.heap_alloc _ _ _ (by simp)).trans (heap_alloc_new w _)
  have b1 : ArrB 53 ((w.alloc (.cells (l.map vb).toArray 53)).alloc (.cells (m.map vb).toArray 53)) (w.heap.size + 1) m := by
    have := heap_alloc_new (w.alloc (.cells (l.map vb).toArray 53)) (.cells (m.map vb).toArray 53)
    rwa [World.size_alloc] at this
  have B0 : Below w.heap.size w ((w.alloc (.cells (l.map vb).toArray 53)).alloc (.cells (m.map vb).toArray 53)) := ((Below.refl _ w).alloc (Nat.le_refl _) _).alloc (by simp) _
  have HB := Lib.hid (And.intro b0 (And.intro b1 B0))
  obtain ⟨C, hC⟩ : ∃ C, Hid (C = (l.map vb).toArray) := ⟨_, rfl⟩
  obtain ⟨D, hD⟩ : ∃ C, Hid (C = (m.map vb).toArray) := ⟨_, rfl⟩
  rw [← hC.out, ← hD.out] at HB ⊢
  clear b0 b1 B0 hl hm
  go_enter Tryz.func81, Tryz.ntmps81
  go_wp2_with (first
    | ((with_reducible refine wpList_boxB (o := ⟨some 2, .box _ (.tmp 0), _, _, _, _⟩) (.tmp 0) (by with_unfolding_all rfl) (by with_unfolding_all rfl) (by with_unfolding_all rfl) ?_))
    | ((with_reducible refine wpList_boxB (o := ⟨some 3, .box _ (.tmp 1), _, _, _, _⟩) (.tmp 1) (by with_unfolding_all rfl) (by with_unfolding_all rfl) (by with_unfolding_all rfl) ?_)))
  obtain ⟨b0, b1, B0⟩ := HB.out
  go_loopw [5, 7] (fun v i wr => ∃ (k : Nat) (x : UInt8), k ≤ 32 ∧ i = .int .i64 k ∧ v = vb x ∧ Hid (x = 0 ↔ l.take k = m.take k) ∧ ArrB 53 wr w.heap.size l ∧ ArrB 53 wr (w.heap.size + 1) m ∧ Below w.heap.size w wr) (fun _ i _ => 32 - (intOf i).toNat)
  case atStart => exact ⟨0, 0, by omega, rfl, rfl, by simp [Hid], b0, b1, B0⟩
  case round =>
    clear b0 b1 B0
    obtain ⟨k, v, hk, rfl, rfl, HV, A0, A1, B⟩ := hrel
    by_cases hlt : k < 32
    · have d1 : decide ((k : Int) < 32) = true := by simp; omega
      have hkl : k < l.length := by rw [HLL.out]; exact hlt
      have hkm : k < m.length := by rw [HML.out]; exact hlt
      have i0 := fun W => arrB_index (T := 53) (n := 32) Tryz.underlying53 w.heap.size k hlt W
      have i1 := fun W => arrB_index (T := 53) (n := 32) Tryz.underlying53 (w.heap.size + 1) k hlt W
      have e0 : ∀ n, ({ wr with drawn := n } : World).cell? ⟨w.heap.size, k, none⟩ = some (vb l[k]) := fun _ => A0.cell k hkl
      have e1 : ∀ n, ({ wr with drawn := n } : World).cell? ⟨w.heap.size + 1, k, none⟩ = some (vb m[k]) := fun _ => A1.cell k hkm
      have HS : Hid (bOr v (bXor l[k] m[k]) = 0 ↔ l.take (k + 1) = m.take (k + 1)) := by
        rw [Hid, or_zero, HV.out, List.take_succ_eq_append_getElem hkl, List.take_succ_eq_append_getElem hkm]
        constructor
        · rintro ⟨h1, h2⟩; rw [h1, h2]
        · intro h
          have := List.append_inj h (by rw [List.length_take, List.length_take, HLL.out, HML.out])
          exact ⟨this.1, by simpa using this.2⟩
      generalize l[k] = x at e0 HS
      generalize m[k] = y at e1 HS
      have A0d : ∀ n, ArrB 53 (wr.drewN n) w.heap.size l := fun _ => A0
      have A1d : ∀ n, ArrB 53 (wr.drewN n) (w.heap.size + 1) m := fun _ => A1
      have HA := Lib.hid (And.intro A0d A1d)
      clear hkl hkm A0d A1d
      go_wp2_with fail
      go_quiet (fail)
      go_wp2_with fail
      go_roundw
      case rel => exact ⟨k + 1, bOr v (bXor x y), by omega, by go_num, rfl, HS, HA.out.1 _, HA.out.2 _, B.trans (below_drewN _ _ _)⟩
      case measure => simp [intOf]; omega
    · have hk2 : k = 32 := by omega
      have d1 : decide ((k : Int) < 32) = false := by simp; omega
      have HV2 : Hid (v = 0 ↔ l = m) := by
        have := HV.out
        rwa [hk2, List.take_of_length_le (by rw [HLL.out]; omega), List.take_of_length_le (by rw [HML.out]; omega)] at this
      clear hk2
      by_cases hlm : l = m
      · have q : ((v.toNat : Int) == 0) = true := by rw [HV2.out.2 hlm]; rfl
        have HR : Hid (decide (l = m) = true) := by rw [Hid]; simpa using hlm
        clear hlm
        go_wp2_with fail
        go_ret
        exact ⟨by rw [HR.out]; rfl, B⟩
      · have q : ((v.toNat : Int) == 0) = false := by
          rw [beq_eq_false_iff_ne]; intro h
          exact hlm (HV2.out.1 (UInt8.toNat_inj.1 (by show v.toNat = 0; omega)))
        have HR : Hid (decide (l = m) = false) := by rw [Hid]; simpa using hlm
        clear hlm
        go_wp2_with fail
        go_ret
        exact ⟨by rw [HR.out]; rfl, B⟩
end Go.Proofs.YtlholdllibghbaaGreat

/- manifest.Print, tag, Hash, Right, Seal: walked. -/
namespace Go.Proofs.YtlholdllibghbaaGreat
open Go Go.RowKit Go.Cit

def mprintB (M : ManV) : List UInt8 := if canM M then headB M ++ M.tag else []
def mprintE (M : ManV) : Int := if canM M then 0 else 2
theorem printB_of {M : ManV} (h : canM M = true) : mprintB M = headB M ++ M.tag ∧ mprintE M = 0 := by unfold mprintB mprintE; rw [h]; exact ⟨rfl, rfl⟩
theorem printB_no {M : ManV} (h : canM M = false) : mprintB M = [] ∧ mprintE M = 2 := by unfold mprintB mprintE; rw [h]; exact ⟨rfl, rfl⟩
theorem mprint_len {M : ManV} (hp : M.prev.length = 32) (ht : M.tag.length = 32) : (mprintB M).length ≤ 3866 := by
  cases h : canM M with
  | false => rw [(printB_no h).1]; simp
  | true => rw [(printB_of h).1, List.length_append, ht]; have := head_len hp (canM_cfg h); omega
def mpr (w0 : Nat) (C T : Array Value) (f : Nat → Value) : Nat → Value
  | 7 => (.agg C)
  | 9 => (.pointer (some ⟨w0, 37, none⟩))
  | 10 => (.agg T)
  | 13 => (tupG 0 (f 2))
  | 14 => (tupG 1 (f 2))
  | 2 => (tupG 0 (f 2))
  | 3 => (tupG 1 (f 2))
  | _ => undef
def mprm : Nat → Nat
  | 13 => 3
  | 14 => 3
  | 2 => 3
  | 3 => 3
  | _ => 0
def mpro (w0 : Nat) (_ _ : Array Value) : Nat → Value
  | 1 => (.pointer (some ⟨w0, 0, none⟩))
  | _ => undef
theorem mpr_on (w0 : Nat) (C T : Array Value) : ∀ d (f g : Nat → Value), (∀ j, j < mprm d → f j = g j) → mpr w0 C T f d = mpr w0 C T g d := by
  intro d f g h
  unfold mpr
  split
  · rfl
  · rfl
  · rfl
  · rw [h 2 (by decide)]
  · rw [h 2 (by decide)]
  · rw [h 2 (by decide)]
  · rw [h 2 (by decide)]
  · rfl
set_option maxRecDepth 100000 in
set_option maxHeartbeats 4000000 in
theorem mprint_calls (w : World) (M : ManV) (h : M.At w) : Calls Tryz.prog 15 #[.agg (cM M)] w fun e w' => ∃ a' c', e = .returned (.tuple #[.slice a' (mprintB M).length c', .int .i64 (mprintE M)]) ∧ Mine w.heap.size w' a' (mprintB M) c' ∧ Below w.heap.size w w' := by
  obtain ⟨C, hC⟩ : ∃ C, Hid (C = cM M) := ⟨_, rfl⟩
  obtain ⟨w0, hw0⟩ : ∃ w0, w0 = w.alloc (.cells C 55) := ⟨_, rfl⟩
  have B0 : Below w.heap.size w w0 := by rw [hw0]; exact (Below.refl _ w).alloc (Nat.le_refl _) _
  have hI : InM w0 w.heap.size M := by rw [hw0, hC.out]; exact InM.new w h
  have HI0 := Lib.hid hI
  have HB0 := Lib.hid B0
  have HM := Lib.hid (h.stay B0)
  have hc := mcan_calls w0 M (h.stay B0)
  obtain ⟨k, hk⟩ : ∃ k, Hid (k = canM M) := ⟨_, rfl⟩
  rw [← hk.out, ← hC.out] at hc
  have HC := Lib.hid hc
  have hm := hI.whole
  rw [← hC.out] at hm
  have HL := Lib.hid hm
  obtain ⟨Y, hY⟩ : ∃ Y, Hid (Y = mprintB M) := ⟨_, rfl⟩
  obtain ⟨E, hE⟩ : ∃ E, Hid (E = mprintE M) := ⟨_, rfl⟩
  rw [← hC.out, ← hY.out, ← hE.out]
  clear hc hm hI h B0
  go_enter Tryz.func15, Tryz.ntmps15
  go_upto_region 1 with fail
  rw [← hw0]
  clear hw0
  go_wp2_with ((with_reducible refine wpList_load_op (o := ⟨some 4, .load 55 (.tmp 1), _, _, _, _⟩) (by with_unfolding_all rfl) (by with_unfolding_all rfl) (by with_unfolding_all rfl) HL.out ?_))
  refine (HC.out).mono ?_
  rintro e w1 ⟨rfl, hb1⟩
  have HB1 := Lib.hid (HB0.out.trans (hb1.mono HB0.out.size))
  have hI := Lib.hid (HI0.out.keep hb1)
  have HM1 := Lib.hid (HM.out.stay hb1)
  clear HL HC HI0 HM hb1
  cases k with
  | false =>
    have hn := printB_no hk.out.symm
    rw [← hY.out, ← hE.out] at hn
    obtain ⟨rfl, rfl⟩ := hn
    go_wp2_with fail
    go_ret2
    exact ⟨none, 0, rfl, Mine.nil _ _, HB1.out⟩
  | true =>
    have HCN : Hid (canM M = true) := hk.out.symm
    have HH : Hid (∀ wx, Below w1.heap.size w1 wx → Calls Tryz.prog 47 #[.agg C] wx (Begun wx (headB M))) := fun wx hb => by rw [hC.out]; exact head_calls wx M (HM1.out.stay hb) HCN.out
    obtain ⟨T, hT⟩ : ∃ T, Hid (T = (M.tag.map vb).toArray) := ⟨_, rfl⟩
    have C1 : ∀ q : After w1, (Instr.loadAt 53 (.pointer (some ⟨w.heap.size, 37, none⟩))).run Tryz.prog q.to = .ok (.agg T) q.to := fun q => by rw [hT.out]; exact (hI.out.keep q.bel).tag
    have C5 : ∀ q : After w1, (Instr.loadAt 55 (.pointer (some ⟨w.heap.size, 0, none⟩))).run Tryz.prog q.to = .ok (.agg C) q.to := fun q => by rw [hC.out]; exact (hI.out.keep q.bel).whole
    have HRM : Hid ((headB M).length + [M.tag].flatten.length ≤ 65536) := by
      have := head_len hI.out.p32 (canM_cfg HCN.out)
      have h2 := hI.out.t32
      rw [Hid]; simp only [List.flatten_cons, List.flatten_nil, List.append_nil]; omega
    have WT : Hid (∀ vs wx, WrSt w1 (headB M) [M.tag] vs wx → 2 < vs.length → ∃ A B, atL vs 2 = .tuple #[A, B]) := fun vs wx hst hl => by
      obtain ⟨a, X, c, h1, _⟩ := hst.told (k := 2) rfl hl
      exact ⟨_, _, h1⟩
    go_upto_region 3 with fail
    refine wp_region_lineX (mpr w.heap.size C T) mprm (mpro w.heap.size C T) [1] [1, 4, 5] (WrSt w1 (headB M) [M.tag]) (by kernel_rfl) (by kernel_rfl) (by kernel_rfl) (by kernel_rfl) ⟨rfl, trivial⟩ (mpr_on w.heap.size C T) (WrSt.start _ _ _) ?_ ?_
    · refine opsAll_cons ?_ (opsAll_cons ?_ (opsAll_cons ?_ (opsAll_cons ?_ (opsAll_cons ?_ (opsAll_cons ?_ (opsAll_cons ?_ (opsAll_cons ?_ (opsAll_cons ?_ (opsAll_cons ?_ opsAll_nil)))))))))
      all_goals intro av vs hk
      · exact ⟨wanted_free rfl, .inr ⟨by decide, fun s1 s2 hle wx hst => gp_load (.tmp 1) rfl (show av.eval (.tmp 1) = (.pointer (some ⟨w.heap.size, 0, none⟩)) from hk.old 1 (by kernel_rfl)) (v := (.agg C)) ((fun (q : After _) => C5 q) ⟨wx, hst.bel⟩) ⟨hst, rfl⟩⟩⟩
      · refine ⟨wanted_free rfl, .inl ⟨0, rfl, fun hvs wx hst => ?_⟩⟩
        refine gp_call rfl (hk.fn _) #[.agg C] (fun w => by kernel_rfl) (by simp only [List.map_toArray, List.map_cons, List.map_nil, (show av.eval (.tmp 7) = (.agg C) from hk.slot 7 (by kernel_rfl) (by kernel_rfl))]) (hst.begins hvs (HH.out wx hst.bel))
      · exact ⟨wanted_free rfl, .inr ⟨by decide, fun s1 s2 hle wx hst => gp_field (.tmp 1) rfl (show av.eval (.tmp 1) = (.pointer (some ⟨w.heap.size, 0, none⟩)) from hk.old 1 (by kernel_rfl)) (v := (.pointer (some ⟨w.heap.size, 37, none⟩))) (fun w => by kernel_rfl) ⟨hst, rfl⟩⟩⟩
      · exact ⟨wanted_free rfl, .inr ⟨by decide, fun s1 s2 hle wx hst => gp_load (.tmp 9) rfl (show av.eval (.tmp 9) = (.pointer (some ⟨w.heap.size, 37, none⟩)) from hk.slot 9 (by kernel_rfl) (by kernel_rfl)) (v := (.agg T)) ((fun (q : After _) => C1 q) ⟨wx, hst.bel⟩) ⟨hst, rfl⟩⟩⟩
      · refine ⟨wanted_free rfl, .inl ⟨1, rfl, fun hvs wx hst => ?_⟩⟩
        refine gp_call rfl (hk.fn _) #[atL vs 0, .agg T] (fun w => by kernel_rfl) (by simp only [List.map_toArray, List.map_cons, List.map_nil, (show av.eval (.tmp 8) = atL vs 0 from (hk.line 0 8 (by kernel_rfl) (by kernel_rfl)).2), (show av.eval (.tmp 10) = (.agg T) from hk.slot 10 (by kernel_rfl) (by kernel_rfl))]) (hst.step (k := 0) hvs (m := M.tag) rfl HRM.out (fun v => #[v, .agg T]) (fun b a X c hw hb9 hr => by rw [hT.out]; exact wtag_calls hw hb9 _ hI.out.t32 (by have := hI.out.t32; omega)))
      · refine ⟨wanted_free rfl, .inl ⟨2, rfl, fun hvs wx hst => ?_⟩⟩
        refine gp_call rfl (hk.fn _) #[atL vs 1] (fun w => by kernel_rfl) (by simp only [List.map_toArray, List.map_cons, List.map_nil, (show av.eval (.tmp 11) = atL vs 1 from (hk.line 1 11 (by kernel_rfl) (by kernel_rfl)).2)]) (hst.finish (k := 1) rfl hvs)
      · exact ⟨wanted_free rfl, .inr ⟨by decide, fun s1 s2 hle wx hst => gp_extractL rfl (show av.eval (.tmp 12) = atL vs 2 from (hk.line 2 12 (by kernel_rfl) (by kernel_rfl)).2) (by decide) (WT.out vs wx hst (s1 2 5 rfl (by kernel_rfl))) ⟨hst, rfl⟩⟩⟩
      · exact ⟨wanted_free rfl, .inr ⟨by decide, fun s1 s2 hle wx hst => gp_extractL rfl (show av.eval (.tmp 12) = atL vs 2 from (hk.line 2 12 (by kernel_rfl) (by kernel_rfl)).2) (by decide) (WT.out vs wx hst (s1 2 5 rfl (by kernel_rfl))) ⟨hst, rfl⟩⟩⟩
      · exact ⟨wanted_free rfl, .inr ⟨by decide, fun s1 s2 hle wx hst => gp_assign (.tmp 13) rfl ⟨hst, (show av.eval (.tmp 13) = (tupG 0 (atL vs 2)) from hk.slot 13 (by kernel_rfl) (by kernel_rfl))⟩⟩⟩
      · exact ⟨wanted_free rfl, .inr ⟨by decide, fun s1 s2 hle wx hst => gp_assign (.tmp 14) rfl ⟨hst, (show av.eval (.tmp 14) = (tupG 1 (atL vs 2)) from hk.slot 14 (by kernel_rfl) (by kernel_rfl))⟩⟩⟩
    intro av vs w2 hlen9 hfin hsame hall hline
    have he := act_same hsame [7, 8, 9, 10, 11, 12, 13, 14, 2, 3] (by kernel_rfl)
    simp only [List.foldl_cons, List.foldl_nil] at he
    rw [show av.eval (.tmp 2) = (tupG 0 (atL vs 2)) from hall 2 (by kernel_rfl) (by kernel_rfl), show av.eval (.tmp 3) = (tupG 1 (atL vs 2)) from hall 3 (by kernel_rfl) (by kernel_rfl)] at he
    generalize av.eval (.tmp 7) = y7 at he
    generalize av.eval (.tmp 8) = y8 at he
    generalize av.eval (.tmp 9) = y9 at he
    generalize av.eval (.tmp 10) = y10 at he
    generalize av.eval (.tmp 11) = y11 at he
    generalize av.eval (.tmp 12) = y12 at he
    generalize av.eval (.tmp 13) = y13 at he
    generalize av.eval (.tmp 14) = y14 at he
    simp only [put_lit] at he
    dsimp only [List.set_cons_zero, List.set_cons_succ] at he
    subst he
    clear hsame hall hline
    obtain ⟨a, X, c, hv, hX, hW, hb2⟩ := hfin.told (k := 2) rfl (by rw [hlen9]; decide)
    rw [hv]
    have hn := printB_of HCN.out
    rw [← hY.out, ← hE.out] at hn
    have hXY : X = Y := by rw [hX.out, hn.1]; simp
    subst hXY
    go_wp2_with fail
    go_ret2
    exact ⟨a, c, by rw [hn.2]; rfl, hW.low HB1.out.size, HB1.out.trans (hb2.mono HB1.out.size)⟩
end Go.Proofs.YtlholdllibghbaaGreat

/- manifest.tag, Hash: walked. -/
namespace Go.Proofs.YtlholdllibghbaaGreat
open Go Go.RowKit Go.Cit

def manifS : List UInt8 := [109, 97, 110, 105, 102, 101, 115, 116]
def mtagB (key : List UInt8) (M : ManV) : List UInt8 := hmacB (deriveB key manifS []) (headB M)
theorem ints_nil (w : World) : Ints w none [] 0 := ⟨Nat.le_refl _, by decide, fun h => absurd rfl h, fun i h => by simp at h, fun i h => by simp at h⟩
theorem deriveB_len (k s : List UInt8) (zs : List Int) : (deriveB k s zs).length = 32 := hmacB_len _ _
theorem mtagB_len (key : List UInt8) (M : ManV) : (mtagB key M).length = 32 := hmacB_len _ _
set_option maxRecDepth 100000 in
set_option maxHeartbeats 4000000 in
theorem mtag_calls (w : World) (a : Option Addr) (key : List UInt8) (c : Nat) (hk : Row w a key c) (hkl : key.length ≤ 100000) (M : ManV) (h : M.At w) (hcan : canM M = true) : Calls Tryz.prog 80 #[.slice a key.length c, .agg (cM M)] w fun e w' => e = .returned (.agg ((mtagB key M).map vb).toArray) ∧ Below w.heap.size w w' := by
  have HZ := Lib.hid (tag_cells zeros32 rfl)
  have HA := Lib.hid (fun ρ d ty ps af w => alloc_tag ρ d ty ps (af := af) w)
  obtain ⟨Z, hZ⟩ : ∃ Z, Hid (Z = (zeros32.map vb).toArray) := ⟨_, rfl⟩
  rw [← hZ.out] at HZ HA
  obtain ⟨C, hC⟩ : ∃ C, Hid (C = cM M) := ⟨_, rfl⟩
  obtain ⟨w0, hw0⟩ : ∃ w0, w0 = (w.alloc (.cells C 55)).alloc (.cells Z 53) := ⟨_, rfl⟩
  have B1 : Below (w.alloc (.cells C 55)).heap.size (w.alloc (.cells C 55)) w0 := by rw [hw0]; exact (Below.refl _ _).alloc (Nat.le_refl _) _
  have B0 : Below w.heap.size w w0 := ((Below.refl _ w).alloc (Nat.le_refl _) _).trans (B1.mono (by simp))
  have hI : InM w0 w.heap.size M := by rw [hC.out] at B1; exact (InM.new w h).keep B1
  obtain ⟨g, hg⟩ : ∃ g, g = w.heap.size + 1 := ⟨_, rfl⟩
  have hgb : w0.heap[g]? = some (.cells Z 53 (0, 0)) := by
    rw [hw0, hg]; have := heap_alloc_new (w.alloc (.cells C 55)) (.cells Z 53); simpa using this
  have hgw : w.heap.size ≤ g := by omega
  have HGW := Lib.hid hgw
  have HG := Lib.hid hgb
  have hm := hI.whole
  rw [← hC.out] at hm
  have HL := Lib.hid hm
  have HB0 := Lib.hid B0
  have HK := Lib.hid (hk.stay B0)
  have hh := head_calls w0 M (h.stay B0) hcan
  rw [← hC.out] at hh
  have HH := Lib.hid hh
  have HHL := Lib.hid (head_len h.p32 (canM_cfg hcan))
  obtain ⟨F, hF⟩ : ∃ F, Hid (F = headB M) := ⟨_, rfl⟩
  rw [← hF.out] at HH
  obtain ⟨R, hR⟩ : ∃ R, Hid (R = mtagB key M) := ⟨_, rfl⟩
  rw [← hR.out, ← hC.out]
  obtain ⟨n, hn⟩ : ∃ n, Hid (n = key.length) := ⟨_, rfl⟩
  rw [← hn.out]
  have HNK : Hid (key.length = n) := hn.out.symm
  clear hgb hgw hI hm h B0 B1 hk hh hcan
  go_enter Tryz.func80, Tryz.ntmps80
  go_upto_region 1 with ((with_reducible refine wpList_value (o := ⟨some 4, .alloc _, _, _, _, _⟩) (by with_unfolding_all rfl) (HA.out _ _ _ _ _ _) ?_))
  rw [← hw0, show (w.alloc (.cells C 55)).heap.size = g by rw [hg]; simp]
  have HG1 := Lib.hid hg
  clear hw0 hg
  go_wp2_with ((with_reducible refine wpList_load_op (o := ⟨some 8, .load 55 (.tmp 3), _, _, _, _⟩) (by with_unfolding_all rfl) (by with_unfolding_all rfl) (by with_unfolding_all rfl) HL.out ?_))
  refine (HH.out).mono ?_
  rintro e w1 ⟨b, ab, X, cb, hX, rfl, hW, hb1⟩
  have HB1 := Lib.hid hb1
  have HD := Lib.hid (done_calls hW)
  clear HL HH hW hb1
  go_wp2_with fail
  refine (HD.out).mono ?_
  rintro e w2 ⟨a2, X2, c2, hX2, rfl, hM2, hb2⟩
  have HB2 := Lib.hid (HB1.out.trans (hb2.mono HB1.out.size))
  have HM2 := Lib.hid hM2.row
  obtain rfl : X2 = X := hX2.out
  have hdr := derive_calls w2 a key c (HK.out.stay HB2.out) (by omega) manifS (by decide) none [] 0 (ints_nil w2) (by decide)
  rw [HNK.out] at hdr
  have HDR := Lib.hid hdr
  clear HD hM2 hb2 hdr
  go_wp2_with fail
  refine (HDR.out).mono ?_
  rintro e w3 ⟨g3, rfl, hg3, hA3, hb3⟩
  have HB3 := Lib.hid (HB2.out.trans (hb3.mono HB2.out.size))
  have hrr := hA3.row (by rw [deriveB_len]; decide)
  have HHS : Hid (Calls Tryz.prog 164 #[.slice (some ⟨g3, 0, none⟩) 32 32, .slice a2 X2.length c2] w3 fun e w' => e = .returned (.agg (R.map vb).toArray) ∧ Below w3.heap.size w3 w') := by
    have := hsum_calls w3 _ _ _ hrr (by rw [deriveB_len]; decide) a2 X2 c2 (HM2.out.stay hb3) (by rw [hX.out, hF.out]; have := HHL.out; omega)
    rw [deriveB_len] at this
    rw [hR.out, mtagB, ← hF.out, ← hX.out]
    exact this
  have HR32 : Hid (R.length = 32) := by rw [Hid, hR.out]; exact mtagB_len _ _
  clear HDR hrr hA3 hb3 hg3
  go_wp2_with fail
  refine (HHS.out).mono ?_
  rintro e w4 ⟨rfl, hb4⟩
  have HB4 := Lib.hid (HB3.out.trans (hb4.mono HB3.out.size))
  have HG4 := Lib.hid (blk_stay HG.out HB4.out)
  have HT := Lib.hid (tag_cells R HR32.out)
  obtain ⟨T, hT⟩ : ∃ T, Hid (T = (R.map vb).toArray) := ⟨_, rfl⟩
  rw [← hT.out] at HT
  rw [← hT.out]
  clear HHS hb4
  go_wp2_with ((with_reducible refine wpList_storeB (o := ⟨none, .store _ (.tmp 4) (.tmp 16), _, _, _, _⟩) tagRow (.tmp 4) (.tmp 16) (by with_unfolding_all rfl) (by with_unfolding_all rfl) (by with_unfolding_all rfl) (by with_unfolding_all rfl) (by with_unfolding_all rfl) HG4.out HZ.out.1 HT.out.1 HT.out.2 ?_); intro w5 hbw5 hSw5; have HBw5 := Lib.hid hbw5; have HSw5 := Lib.hid hSw5; clear hbw5 hSw5)
  have HBB := Lib.hid (HB0.out.trans (HB4.out.mono HB0.out.size))
  refine bodyPost_ret (resB1 tagRow rfl rfl HBw5.out HT.out.1) rfl ⟨by rw [hT.out], ?_⟩
  exact HBB.out.trans (HSw5.out.below HBB.out.size (fun k hk => by have := HGW.out; omega))
def mhashB (M : ManV) : List UInt8 := if canM M then sumB (headB M ++ M.tag) else zeros32
theorem mhashB_len (M : ManV) : (mhashB M).length = 32 := by
  unfold mhashB
  split
  · exact sumB_len _
  · rfl
theorem zeroT (ρ : Operand → Value) (d : Option Tmp) (ty : TypeId) (ps : String) {af} (w : World) :
    (execOp ρ { dst := d, op := Op.build 53 #[], type := ty, pos := ps, after := af, guard := none }).run Tryz.prog w = .ok (.value (.agg (zeros32.map vb).toArray)) w := by
  kernel_rfl
set_option maxRecDepth 100000 in
set_option maxHeartbeats 4000000 in
theorem mhash_calls (w : World) (M : ManV) (h : M.At w) : Calls Tryz.prog 18 #[.agg (cM M)] w fun e w' => e = .returned (.agg ((mhashB M).map vb).toArray) ∧ Below w.heap.size w w' := by
  have HZ := Lib.hid (tag_cells zeros32 rfl)
  have HA := Lib.hid (fun ρ d ty ps af w => alloc_tag ρ d ty ps (af := af) w)
  have HZT := Lib.hid (fun ρ d ty ps af w => zeroT ρ d ty ps (af := af) w)
  obtain ⟨Z, hZ⟩ : ∃ Z, Hid (Z = (zeros32.map vb).toArray) := ⟨_, rfl⟩
  rw [← hZ.out] at HZ HA HZT
  obtain ⟨C, hC⟩ : ∃ C, Hid (C = cM M) := ⟨_, rfl⟩
  obtain ⟨w0, hw0⟩ : ∃ w0, w0 = (w.alloc (.cells C 55)).alloc (.cells Z 53) := ⟨_, rfl⟩
  have B1 : Below (w.alloc (.cells C 55)).heap.size (w.alloc (.cells C 55)) w0 := by rw [hw0]; exact (Below.refl _ _).alloc (Nat.le_refl _) _
  have B0 : Below w.heap.size w w0 := ((Below.refl _ w).alloc (Nat.le_refl _) _).trans (B1.mono (by simp))
  have hI : InM w0 w.heap.size M := by rw [hC.out] at B1; exact (InM.new w h).keep B1
  obtain ⟨g, hg⟩ : ∃ g, g = w.heap.size + 1 := ⟨_, rfl⟩
  have hgb : w0.heap[g]? = some (.cells Z 53 (0, 0)) := by
    rw [hw0, hg]; have := heap_alloc_new (w.alloc (.cells C 55)) (.cells Z 53); simpa using this
  have hgw : w.heap.size ≤ g := by omega
  have HGW := Lib.hid hgw
  have HG := Lib.hid hgb
  have hm := hI.whole
  rw [← hC.out] at hm
  have HL := Lib.hid hm
  have HB0 := Lib.hid B0
  have hp := mprint_calls w0 M (h.stay B0)
  have HPL := Lib.hid (mprint_len h.p32 h.t32)
  obtain ⟨F, hF⟩ : ∃ F, Hid (F = mprintB M) := ⟨_, rfl⟩
  obtain ⟨E, hE⟩ : ∃ E, Hid (E = mprintE M) := ⟨_, rfl⟩
  rw [← hF.out, ← hE.out, ← hC.out] at hp
  have HP := Lib.hid hp
  obtain ⟨k, hk⟩ : ∃ k, Hid (k = canM M) := ⟨_, rfl⟩
  obtain ⟨R, hR⟩ : ∃ R, Hid (R = mhashB M) := ⟨_, rfl⟩
  have HR32 : Hid (R.length = 32) := by rw [Hid, hR.out]; exact mhashB_len _
  rw [← hR.out, ← hC.out]
  clear hgb hgw hI hm h B0 B1 hp
  go_enter Tryz.func18, Tryz.ntmps18
  go_upto_region 1 with ((with_reducible refine wpList_value (o := ⟨some 2, .alloc _, _, _, _, _⟩) (by with_unfolding_all rfl) (HA.out _ _ _ _ _ _) ?_))
  rw [← hw0, show (w.alloc (.cells C 55)).heap.size = g by rw [hg]; simp]
  have HG1 := Lib.hid hg
  clear hw0 hg
  go_wp2_with ((with_reducible refine wpList_load_op (o := ⟨some 6, .load 55 (.tmp 1), _, _, _, _⟩) (by with_unfolding_all rfl) (by with_unfolding_all rfl) (by with_unfolding_all rfl) HL.out ?_))
  refine (HP.out).mono ?_
  rintro e w1 ⟨a1, c1, rfl, hM, hb1⟩
  have HB1 := Lib.hid hb1
  have HM1 := Lib.hid hM.row
  have HGA := Lib.hid (blk_stay HG.out hb1)
  clear HL HP hM hb1
  cases k with
  | false =>
    have hn := printB_no hk.out.symm
    rw [← hE.out] at hn
    have e2 := hn.2
    subst e2
    have HRZ : Hid ((R.map vb).toArray = Z) := by rw [Hid, hR.out, mhashB, ← hk.out, hZ.out]; rfl
    clear hn
    go_wp2_with (first | ((with_reducible refine wpList_value (o := ⟨some 12, .build _ _, _, _, _, _⟩) (by with_unfolding_all rfl) (HZT.out _ _ _ _ _ _) ?_)) | ((with_reducible refine wpList_storeB (o := ⟨none, .store _ (.tmp 2) (.tmp 12), _, _, _, _⟩) tagRow (.tmp 2) (.tmp 12) (by with_unfolding_all rfl) (by with_unfolding_all rfl) (by with_unfolding_all rfl) (by with_unfolding_all rfl) (by with_unfolding_all rfl) HGA.out HZ.out.1 HZ.out.1 HZ.out.2 ?_); intro w5 hbw5 hSw5; have HBw5 := Lib.hid hbw5; have HSw5 := Lib.hid hSw5; clear hbw5 hSw5))
    have HBB := Lib.hid (HB0.out.trans (HB1.out.mono HB0.out.size))
    refine bodyPost_ret (resB1 tagRow rfl rfl HBw5.out HZ.out.1) rfl ⟨by rw [HRZ.out], ?_⟩
    exact HBB.out.trans (HSw5.out.below HBB.out.size (fun k hk => by have := HGW.out; omega))
  | true =>
    have hn := printB_of hk.out.symm
    rw [← hE.out] at hn
    have e2 := hn.2
    subst e2
    have HS : Hid (Calls Tryz.prog 52 #[.slice a1 F.length c1] w1 fun e w' => e = .returned (.agg (R.map vb).toArray) ∧ Below w1.heap.size w1 w') := by
      have := sum_calls w1 a1 F c1 HM1.out (by rw [hF.out]; have := HPL.out; omega)
      rw [hR.out, mhashB, ← hk.out, if_pos rfl, ← hn.1, ← hF.out]
      exact this
    clear hn
    go_wp2_with fail
    refine (HS.out).mono ?_
    rintro e w2 ⟨rfl, hb2⟩
    have HB2 := Lib.hid (HB1.out.trans (hb2.mono HB1.out.size))
    have HGB := Lib.hid (blk_stay HG.out HB2.out)
    have HT := Lib.hid (tag_cells R HR32.out)
    obtain ⟨T, hT⟩ : ∃ T, Hid (T = (R.map vb).toArray) := ⟨_, rfl⟩
    rw [← hT.out] at HT
    rw [← hT.out]
    clear HS hb2
    go_wp2_with ((with_reducible refine wpList_storeB (o := ⟨none, .store _ (.tmp 2) (.tmp 14), _, _, _, _⟩) tagRow (.tmp 2) (.tmp 14) (by with_unfolding_all rfl) (by with_unfolding_all rfl) (by with_unfolding_all rfl) (by with_unfolding_all rfl) (by with_unfolding_all rfl) HGB.out HZ.out.1 HT.out.1 HT.out.2 ?_); intro w5 hbw5 hSw5; have HBw5 := Lib.hid hbw5; have HSw5 := Lib.hid hSw5; clear hbw5 hSw5)
    have HBB := Lib.hid (HB0.out.trans (HB2.out.mono HB0.out.size))
    refine bodyPost_ret (resB1 tagRow rfl rfl HBw5.out HT.out.1) rfl ⟨by rw [hT.out], ?_⟩
    exact HBB.out.trans (HSw5.out.below HBB.out.size (fun k hk => by have := HGW.out; omega))
end Go.Proofs.YtlholdllibghbaaGreat

/- manifest.Seal, Right: walked; manifests in plain words. -/
namespace Go.Proofs.YtlholdllibghbaaGreat
open Go Go.RowKit Go.Cit

def canK (K : Man) : Bool := (((decide (1 ≤ K.ver.1) && decide (K.ver.1 ≤ 1099511627776)) && decide (1 ≤ K.trial.1)) && decide (K.trial.1 ≤ 8)) && canC K.cfg
def cprintK (K : Cfg) : List UInt8 := if canC K then formK K else []
def headK (K : Man) : List UInt8 := [int8 K.ver.1, K.prev, int8 K.trial.1, withB (cprintK K.cfg)].flatten
def mprintK (K : Man) : List UInt8 := if canK K then headK K ++ K.tag else []
def mtagK (key : List UInt8) (K : Man) : List UInt8 := hmacB (deriveB key manifS []) (headK K)
def mhashK (K : Man) : List UInt8 := if canK K then sumB (headK K ++ K.tag) else zeros32
def sealK (key : List UInt8) (K : Man) : Man := { K with tag := if canK K then mtagK key K else K.tag }
def rightK (key : List UInt8) (K : Man) : Bool := canK K && decide (mtagK key K = K.tag)
theorem printB_cfg (V : CfgV) : printB V = cprintK V.cfg := by unfold printB cprintK; rw [canV_cfg, formV_cfg]
theorem canM_man (M : ManV) : canM M = canK M.man := by unfold canM canK; rw [canV_cfg]; rfl
theorem headB_man (M : ManV) : headB M = headK M.man := by unfold headB headL headK; rw [printB_cfg]; rfl
theorem mtagB_man (key : List UInt8) (M : ManV) : mtagB key M = mtagK key M.man := by unfold mtagB mtagK; rw [headB_man]
theorem mhashB_man (M : ManV) : mhashB M = mhashK M.man := by unfold mhashB mhashK; rw [canM_man, headB_man]; rfl
theorem mprintB_man (M : ManV) : mprintB M = mprintK M.man := by unfold mprintB mprintK; rw [canM_man, headB_man]; rfl
theorem man_cfg {M : ManV} {U : CfgV} (h : U.cfg = M.cfg.cfg) : ({ M with cfg := U } : ManV).man = M.man := by unfold ManV.man; rw [h]
def zM : ManV := ⟨⟨0, by decide⟩, zeros32, ⟨0, by decide⟩, vZ, zeros32⟩
theorem alloc_man (ρ : Operand → Value) (d : Option Tmp) (ty : TypeId) (ps : String) {af} (w : World) :
    (execOp ρ { dst := d, op := Op.alloc 55, type := ty, pos := ps, after := af, guard := none }).run Tryz.prog w = .ok (.value (.pointer (some ⟨w.heap.size, 0, none⟩))) (w.alloc (.cells (cM zM) 55)) := by
  kernel_rfl
theorem build_man (ρ : Operand → Value) (d : Option Tmp) (ty : TypeId) (ps : String) {af} (w : World) :
    (execOp ρ { dst := d, op := Op.build 55 #[], type := ty, pos := ps, after := af, guard := none }).run Tryz.prog w = .ok (.value (.agg (cM zM))) w := by
  kernel_rfl
theorem FreshV.saveB {B : Nat} {S : Nat → Prop} {w w' : World} {V : CfgV} (h : FreshV B w V) (hs : Save S w w') (hS : ∀ k, B ≤ k → S k) : FreshV B w' V := by
  have s : ∀ {E : TypeId} {g : Nat}, B ≤ g → (∃ cs, w.heap[g]? = some (.cells cs E (0, 0))) → ∃ cs, w'.heap[g]? = some (.cells cs E (0, 0)) := by
    rintro E g hB ⟨cs, hg⟩
    exact ⟨cs, (hs.block g (Array.getElem?_eq_some_iff.1 hg).1 (hS g hB)).trans hg⟩
  exact ⟨h.win.save cWin_len hs (fun _ j hj => hS j (h.wb j hj).1), h.pts.save cPt_len hs (fun _ j hj => hS j (h.pb j hj).1), h.chs.save cCh_len hs (fun _ j hj => hS j (h.cb j hj).1),
    fun g hg => ⟨(h.wb g hg).1, s (h.wb g hg).1 (h.wb g hg).2⟩, fun g hg => ⟨(h.pb g hg).1, s (h.pb g hg).1 (h.pb g hg).2⟩, fun g hg => ⟨(h.cb g hg).1, s (h.cb g hg).1 (h.cb g hg).2⟩, fun x hx => (h.img x hx).save hs (fun j hj => hS j (((h.img x hx).blk_ge hj).1))⟩
theorem cU_one (U : CfgV) : (cU U).all (·.oneCell') = true := by simp [cU, Value.oneCell']
def mrt (B : Nat) (C T1 T2 : Array Value) (ak : Option Addr) (n c : Nat) (k s : Bool) : Nat → Value
  | 5 => (.agg C)
  | 6 => (.bool k)
  | 7 => (.bool k)
  | 8 => (bif k then (.slice ak n c) else undef)
  | 9 => (bif k then (.agg C) else undef)
  | 10 => (bif k then (.agg T1) else undef)
  | 11 => (bif k then (.pointer (some ⟨B, 37, none⟩)) else undef)
  | 12 => (bif k then (.agg T2) else undef)
  | 13 => (bif k then (.bool s) else undef)
  | 14 => (.bool (k && s))
  | 4 => (.bool (k && s))
  | _ => undef
def mrto (B : Nat) (_ _ _ : Array Value) (ak : Option Addr) (n c : Nat) (_ _ : Bool) : Nat → Value
  | 0 => (.slice ak n c)
  | 3 => (.pointer (some ⟨B, 0, none⟩))
  | _ => undef
set_option maxRecDepth 100000 in
set_option maxHeartbeats 4000000 in
theorem mright_calls (w : World) (ak : Option Addr) (key : List UInt8) (c : Nat) (hk : Row w ak key c) (hkl : key.length ≤ 100000) (M : ManV) (h : M.At w) : Calls Tryz.prog 29 #[.slice ak key.length c, .agg (cM M)] w fun e w' => e = .returned (.bool (rightK key M.man)) ∧ Below w.heap.size w w' := by
  obtain ⟨C, hC⟩ : ∃ C, Hid (C = cM M) := ⟨_, rfl⟩
  obtain ⟨w0, hw0⟩ : ∃ w0, w0 = w.alloc (.cells C 55) := ⟨_, rfl⟩
  have B0 : Below w.heap.size w w0 := by rw [hw0]; exact (Below.refl _ w).alloc (Nat.le_refl _) _
  have hI : InM w0 w.heap.size M := by rw [hw0, hC.out]; exact InM.new w h
  have HI0 := Lib.hid hI
  have HB0 := Lib.hid B0
  have HM := Lib.hid (h.stay B0)
  have HK := Lib.hid (hk.stay B0)
  obtain ⟨k, hkk⟩ : ∃ k, Hid (k = canM M) := ⟨_, rfl⟩
  obtain ⟨s, hss⟩ : ∃ s, Hid (s = decide (mtagB key M = M.tag)) := ⟨_, rfl⟩
  obtain ⟨R, hR⟩ : ∃ R, Hid (R = rightK key M.man) := ⟨_, rfl⟩
  have HR : Hid (R = (k && s)) := by rw [Hid, hR.out, rightK, ← canM_man, ← mtagB_man, hkk.out, hss.out]; rfl
  obtain ⟨n, hn⟩ : ∃ n, Hid (n = key.length) := ⟨_, rfl⟩
  obtain ⟨T1, hT1⟩ : ∃ T, Hid (T = ((mtagB key M).map vb).toArray) := ⟨_, rfl⟩
  obtain ⟨T2, hT2⟩ : ∃ T, Hid (T = (M.tag.map vb).toArray) := ⟨_, rfl⟩
  have HC : Hid (∀ q : After w0, Calls Tryz.prog 17 #[.agg C] q.to fun e w' => e = .returned (.bool k) ∧ Below q.to.heap.size q.to w') := fun q => by rw [hC.out, hkk.out]; exact mcan_calls q.to M (HM.out.stay q.bel)
  have HT1 : Hid (∀ q : After w0, k = true → Calls Tryz.prog 80 #[.slice ak n c, .agg C] q.to fun e w' => e = .returned (.agg T1) ∧ Below q.to.heap.size q.to w') := fun q hk1 => by rw [hC.out, hT1.out, hn.out]; exact mtag_calls q.to ak key c (HK.out.stay q.bel) hkl M (HM.out.stay q.bel) (by rw [← hkk.out]; exact hk1)
  have HSM : Hid (∀ q : After w0, Calls Tryz.prog 81 #[.agg T1, .agg T2] q.to fun e w' => e = .returned (.bool s) ∧ Below q.to.heap.size q.to w') := fun q => by rw [hT1.out, hT2.out, hss.out]; exact hsame_calls q.to _ _ (mtagB_len _ _) HI0.out.t32
  have C1 : ∀ q : After w0, (Instr.loadAt 53 (.pointer (some ⟨w.heap.size, 37, none⟩))).run Tryz.prog q.to = .ok (.agg T2) q.to := fun q => by rw [hT2.out]; exact (HI0.out.keep q.bel).tag
  have C5 : ∀ q : After w0, (Instr.loadAt 55 (.pointer (some ⟨w.heap.size, 0, none⟩))).run Tryz.prog q.to = .ok (.agg C) q.to := fun q => by rw [hC.out]; exact (HI0.out.keep q.bel).whole
  rw [← hC.out, ← hR.out, ← hn.out]
  clear hI h B0 hk
  go_enter Tryz.func29, Tryz.ntmps29
  go_upto_region 1 with fail
  rw [← hw0]
  clear hw0
  refine wp_region_vals (mrt w.heap.size C T1 T2 ak n c k s) (mrto w.heap.size C T1 T2 ak n c k s) [0, 3] (by kernel_rfl) (by kernel_rfl) (by kernel_rfl) ⟨rfl, rfl, trivial⟩ ?_ ?_
  · refine opsAll_cons ?_ (opsAll_cons ?_ (opsAll_cons ?_ (opsAll_cons ?_ (opsAll_cons ?_ (opsAll_cons ?_ (opsAll_cons ?_ (opsAll_cons ?_ (opsAll_cons ?_ (opsAll_cons ?_ (opsAll_cons ?_ opsAll_nil))))))))))
    all_goals intro a hk
    · -- slot 5
      exact .inl ⟨wanted_free rfl, q_load (.tmp 3) rfl (show a.eval (.tmp 3) = (.pointer (some ⟨w.heap.size, 0, none⟩)) from hk.old 3 (by kernel_rfl) (by kernel_rfl)) (v := (.agg C)) (fun q => C5 q) rfl⟩
    · -- slot 6
      exact .inl ⟨wanted_free rfl, q_call rfl rfl #[(.agg C)] (fun w => by kernel_rfl) (by simp only [List.map_toArray, List.map_cons, List.map_nil, (show a.eval (.tmp 5) = (.agg C) from hk.slot 5 (by kernel_rfl))]) (v := (.bool k)) (fun q => HC.out q) rfl⟩
    · -- slot 7
      exact .inl ⟨wanted_free rfl, q_move (.tmp 6) rfl (show a.eval (.tmp 6) = (.bool k) from hk.slot 6 (by kernel_rfl))⟩
    · -- slot 8
      cases k with
      | true =>
        exact .inl ⟨wanted_by 7 true (by kernel_rfl) (show a.eval (.tmp 7) = (.bool true) from hk.slot 7 (by kernel_rfl)), q_move (.tmp 0) rfl (show a.eval (.tmp 0) = (.slice ak n c) from hk.old 0 (by kernel_rfl) (by kernel_rfl))⟩
      | false =>
        exact .inr ⟨unwanted_by 7 true (by kernel_rfl) (show a.eval (.tmp 7) = (.bool false) from hk.slot 7 (by kernel_rfl)), rfl⟩
    · -- slot 9
      cases k with
      | true =>
        exact .inl ⟨wanted_by 7 true (by kernel_rfl) (show a.eval (.tmp 7) = (.bool true) from hk.slot 7 (by kernel_rfl)), q_load (.tmp 3) rfl (show a.eval (.tmp 3) = (.pointer (some ⟨w.heap.size, 0, none⟩)) from hk.old 3 (by kernel_rfl) (by kernel_rfl)) (v := (.agg C)) (fun q => C5 q) rfl⟩
      | false =>
        exact .inr ⟨unwanted_by 7 true (by kernel_rfl) (show a.eval (.tmp 7) = (.bool false) from hk.slot 7 (by kernel_rfl)), rfl⟩
    · -- slot 10
      cases k with
      | true =>
        exact .inl ⟨wanted_by 7 true (by kernel_rfl) (show a.eval (.tmp 7) = (.bool true) from hk.slot 7 (by kernel_rfl)), q_call rfl rfl #[(.slice ak n c), (.agg C)] (fun w => by kernel_rfl) (by simp only [List.map_toArray, List.map_cons, List.map_nil, (show a.eval (.tmp 8) = (.slice ak n c) from hk.slot 8 (by kernel_rfl)), (show a.eval (.tmp 9) = (.agg C) from hk.slot 9 (by kernel_rfl))]) (v := (.agg T1)) (fun q => HT1.out q rfl) rfl⟩
      | false =>
        exact .inr ⟨unwanted_by 7 true (by kernel_rfl) (show a.eval (.tmp 7) = (.bool false) from hk.slot 7 (by kernel_rfl)), rfl⟩
    · -- slot 11
      cases k with
      | true =>
        exact .inl ⟨wanted_by 7 true (by kernel_rfl) (show a.eval (.tmp 7) = (.bool true) from hk.slot 7 (by kernel_rfl)), q_field (.tmp 3) rfl (show a.eval (.tmp 3) = (.pointer (some ⟨w.heap.size, 0, none⟩)) from hk.old 3 (by kernel_rfl) (by kernel_rfl)) (v := (.pointer (some ⟨w.heap.size, 37, none⟩))) (fun w => by kernel_rfl) rfl⟩
      | false =>
        exact .inr ⟨unwanted_by 7 true (by kernel_rfl) (show a.eval (.tmp 7) = (.bool false) from hk.slot 7 (by kernel_rfl)), rfl⟩
    · -- slot 12
      cases k with
      | true =>
        exact .inl ⟨wanted_by 7 true (by kernel_rfl) (show a.eval (.tmp 7) = (.bool true) from hk.slot 7 (by kernel_rfl)), q_load (.tmp 11) rfl (show a.eval (.tmp 11) = (.pointer (some ⟨w.heap.size, 37, none⟩)) from hk.slot 11 (by kernel_rfl)) (v := (.agg T2)) (fun q => C1 q) rfl⟩
      | false =>
        exact .inr ⟨unwanted_by 7 true (by kernel_rfl) (show a.eval (.tmp 7) = (.bool false) from hk.slot 7 (by kernel_rfl)), rfl⟩
    · -- slot 13
      cases k with
      | true =>
        exact .inl ⟨wanted_by 7 true (by kernel_rfl) (show a.eval (.tmp 7) = (.bool true) from hk.slot 7 (by kernel_rfl)), q_call rfl rfl #[(.agg T1), (.agg T2)] (fun w => by kernel_rfl) (by simp only [List.map_toArray, List.map_cons, List.map_nil, (show a.eval (.tmp 10) = (.agg T1) from hk.slot 10 (by kernel_rfl)), (show a.eval (.tmp 12) = (.agg T2) from hk.slot 12 (by kernel_rfl))]) (v := (.bool s)) (fun q => HSM.out q) rfl⟩
      | false =>
        exact .inr ⟨unwanted_by 7 true (by kernel_rfl) (show a.eval (.tmp 7) = (.bool false) from hk.slot 7 (by kernel_rfl)), rfl⟩
    · -- slot 14
      cases k with
      | true =>
        exact .inl ⟨wanted_free rfl, q_pick rfl true (show a.eval (.tmp 7) = (.bool true) from hk.slot 7 (by kernel_rfl)) (show a.eval (.tmp 13) = (.bool s) from hk.slot 13 (by kernel_rfl))⟩
      | false =>
        exact .inl ⟨wanted_free rfl, q_pick rfl false (show a.eval (.tmp 7) = (.bool false) from hk.slot 7 (by kernel_rfl)) rfl⟩
    · -- slot 4
      exact .inl ⟨wanted_free rfl, q_assign (.tmp 14) rfl (show a.eval (.tmp 14) = (.bool (k && s)) from hk.slot 14 (by kernel_rfl))⟩
  intro a ⟨w3, hb3⟩ hsame hall
  have he := act_same hsame [5, 6, 7, 8, 9, 10, 11, 12, 13, 14, 4] (by kernel_rfl)
  simp only [List.foldl_cons, List.foldl_nil] at he
  rw [show a.eval (.tmp 4) = (.bool (k && s)) from hall 4 (by kernel_rfl)] at he
  generalize a.eval (.tmp 5) = x5 at he
  generalize a.eval (.tmp 6) = x6 at he
  generalize a.eval (.tmp 7) = x7 at he
  generalize a.eval (.tmp 8) = x8 at he
  generalize a.eval (.tmp 9) = x9 at he
  generalize a.eval (.tmp 10) = x10 at he
  generalize a.eval (.tmp 11) = x11 at he
  generalize a.eval (.tmp 12) = x12 at he
  generalize a.eval (.tmp 13) = x13 at he
  generalize a.eval (.tmp 14) = x14 at he
  simp only [put_lit] at he
  dsimp only [List.set_cons_zero, List.set_cons_succ] at he
  subst he
  clear hsame hall
  go_wp2_with fail
  go_ret
  exact ⟨ret_bool HR.out.symm, HB0.out.trans (hb3.mono HB0.out.size)⟩
set_option maxRecDepth 100000 in
set_option maxHeartbeats 4000000 in
theorem mseal_calls (w : World) (a : Option Addr) (key : List UInt8) (c : Nat) (hk : Row w a key c) (hkl : key.length ≤ 100000) (M : ManV) (h : M.At w) (hs : SmallV M.cfg) : Calls Tryz.prog 28 #[.slice a key.length c, .agg (cM M)] w fun e w' => ∃ S : ManV, e = .returned (.agg (cM S)) ∧ S.man = sealK key M.man ∧ S.prev.length = 32 ∧ S.tag.length = 32 ∧ FreshV w.heap.size w' S.cfg ∧ Below w.heap.size w w' := by
  have HAM := Lib.hid (fun ρ d ty ps af w => alloc_man ρ d ty ps (af := af) w)
  obtain ⟨Z, hZ⟩ : ∃ Z, Hid (Z = cM zM) := ⟨_, rfl⟩
  rw [← hZ.out] at HAM
  obtain ⟨C, hC⟩ : ∃ C, Hid (C = cM M) := ⟨_, rfl⟩
  obtain ⟨w0, hw0⟩ : ∃ w0, w0 = (w.alloc (.cells C 55)).alloc (.cells Z 55) := ⟨_, rfl⟩
  have B1 : Below (w.alloc (.cells C 55)).heap.size (w.alloc (.cells C 55)) w0 := by rw [hw0]; exact (Below.refl _ _).alloc (Nat.le_refl _) _
  have B0 : Below w.heap.size w w0 := ((Below.refl _ w).alloc (Nat.le_refl _) _).trans (B1.mono (by simp))
  have hI : InM w0 w.heap.size M := by rw [hC.out] at B1; exact (InM.new w h).keep B1
  obtain ⟨g, hg⟩ : ∃ g, g = w.heap.size + 1 := ⟨_, rfl⟩
  have hgb : w0.heap[g]? = some (.cells Z 55 (0, 0)) := by
    rw [hw0, hg]; have := heap_alloc_new (w.alloc (.cells C 55)) (.cells Z 55); simpa using this
  have HGW : Hid (g = w.heap.size + 1) := hg
  have HG := Lib.hid hgb
  have HGS : Hid (w0.heap.size = w.heap.size + 2) := by rw [Hid, hw0]; simp
  have d0 := hI.d0
  have d1 := hI.d1
  have d2 := hI.d2
  have HI0 := Lib.hid hI
  have HB0 := Lib.hid B0
  have HK := Lib.hid hk
  have HP32 := Lib.hid h.p32
  have HT32 := Lib.hid h.t32
  have HCC := Lib.hid (ccopy_calls w0 M.cfg (h.cfg.stay B0) hs)
  have f3 := mf3 w.heap.size
  have f4 := mf4 w.heap.size
  obtain ⟨n, hn⟩ : ∃ n, Hid (n = key.length) := ⟨_, rfl⟩
  rw [← hC.out, ← hn.out]
  clear hgb hI h B0 B1 hk hs
  go_enter Tryz.func28, Tryz.ntmps28
  go_upto_region 1 with ((with_reducible refine wpList_value (o := ⟨some 4, .alloc _, _, _, _, _⟩) (by with_unfolding_all rfl) (HAM.out _ _ _ _ _ _) ?_))
  rw [← hw0, show (w.alloc (.cells C 55)).heap.size = g by rw [hg]; simp]
  clear hw0 hg
  go_upto_region 1 with fail
  go_wp2_with fail
  refine (HCC.out).mono ?_
  rintro e w1 ⟨U, rfl, hU, hF, hb1⟩
  have HI1 := Lib.hid (HI0.out.keep hb1)
  have HG1 := Lib.hid (blk_stay HG.out hb1)
  have HB1 := Lib.hid (HB0.out.trans (hb1.mono HB0.out.size))
  have HF1 := Lib.hid hF
  have HU := Lib.hid hU
  have HCU : Hid ((#[.slice U.wa U.ws.length U.wc, .slice U.pa U.ps.length U.pc, .slice U.ca U.cs.length U.cc] : Array Value).all (·.oneCell') = true) := cU_one U
  clear d0 d1 d2 HCC hU hF hb1 HG HI0 HB0
  go_upto_region 2 with ((with_reducible refine wpList_storeM (o := ⟨none, .store _ (.tmp 8) (.tmp 7), _, _, _, _⟩) (C := cM M) rowC.info (.tmp 8) (.tmp 7) (by with_unfolding_all rfl) (by with_unfolding_all rfl) (by with_unfolding_all rfl) (by with_unfolding_all rfl) (by with_unfolding_all rfl) rfl HI1.out.blk (by rw [HI1.out.size]; decide) HCU.out ?_); intro w2 hbw2 hSw2; have HBw2 := Lib.hid hbw2; have HSw2 := Lib.hid hSw2; clear hbw2 hSw2)
  obtain ⟨M2, hM2⟩ : ∃ M2 : ManV, Hid (M2 = { M with cfg := U }) := ⟨_, rfl⟩
  have HI2 : Hid (InM w2 w.heap.size M2) := by
    rw [Hid, hM2.out]
    refine ⟨HBw2.out.trans ?_, HP32.out, HT32.out⟩
    rw [show splA (cM M) 34 _ = cM { M with cfg := U } from spl_cfg HP32.out U]
  have hMM : M2.man = M.man := by rw [hM2.out]; exact man_cfg HU.out
  have HMM := Lib.hid hMM
  have hwg : w1.heap.size ≤ w2.heap.size := HSw2.out.size
  have hg9 : g < w1.heap.size := (Array.getElem?_eq_some_iff.1 HG1.out).1
  have HG2 : Hid (w2.heap[g]? = some (.cells Z 55 (0, 0))) := (HSw2.out.block g hg9 (by have := HGW.out; omega)).trans HG1.out
  have HB2 : Hid (Below w.heap.size w w2) := HB1.out.trans (HSw2.out.below HB1.out.size (fun k hk => by omega))
  have HF2 : Hid (FreshV w0.heap.size w2 U) := HF1.out.saveB HSw2.out (fun k hk => by have := HGS.out; omega)
  have HA2 : Hid (M2.At w2) := ⟨HI2.out.p32, HI2.out.t32, by rw [hM2.out]; exact HF2.out.at⟩
  have HB0 : Hid (w.heap.size ≤ w0.heap.size) := by have := HGS.out; rw [Hid]; omega
  obtain ⟨C2, hC2⟩ : ∃ C, Hid (C = cM M2) := ⟨_, rfl⟩
  have hw := HI2.out.whole
  rw [← hC2.out] at hw
  have HL2 := Lib.hid hw
  obtain ⟨k, hkk⟩ : ∃ k, Hid (k = canM M2) := ⟨_, rfl⟩
  have HCN : Hid (Calls Tryz.prog 17 #[.agg C2] w2 fun e w' => e = .returned (.bool k) ∧ Below w2.heap.size w2 w') := by rw [hC2.out, hkk.out]; exact mcan_calls w2 M2 HA2.out
  clear hw hMM hwg hg9 HI1 HG1 HB1 HF1 HCU
  go_wp2_with ((with_reducible refine wpList_load_op (o := ⟨some 9, .load 55 (.tmp 3), _, _, _, _⟩) (by with_unfolding_all rfl) (by with_unfolding_all rfl) (by with_unfolding_all rfl) HL2.out ?_))
  refine (HCN.out).mono ?_
  rintro e w3 ⟨rfl, hb3⟩
  have HI3 := Lib.hid (HI2.out.keep hb3)
  have HG3 := Lib.hid (blk_stay HG2.out hb3)
  have HB3 := Lib.hid (HB2.out.trans (hb3.mono HB2.out.size))
  have HF3 := Lib.hid (HF2.out.stay hb3)
  have HA3 := Lib.hid (HA2.out.stay hb3)
  have HZS : Hid (Z.size = 69) := by rw [Hid, hZ.out]; rfl
  clear hb3 HL2 HCN HG2 HB2 HF2 HA2 HI2
  cases k with
  | false =>
    have hw := HI3.out.whole
    rw [← hC2.out] at hw
    have HL3 := Lib.hid hw
    clear hw
    have HC2 : Hid (C2.size = 69 ∧ C2.all (·.oneCell') = true) := by rw [hC2.out]; exact ⟨HI3.out.size, cM_one _⟩
    go_wp2_with (first | (with_reducible refine wpList_load_op (o := ⟨some 15, .load 55 (.tmp 3), _, _, _, _⟩) (by with_unfolding_all rfl) (by with_unfolding_all rfl) (by with_unfolding_all rfl) HL3.out ?_) | ((with_reducible refine wpList_storeB (o := ⟨none, .store _ (.tmp 4) (.tmp 15), _, _, _, _⟩) rowM (.tmp 4) (.tmp 15) (by with_unfolding_all rfl) (by with_unfolding_all rfl) (by with_unfolding_all rfl) (by with_unfolding_all rfl) (by with_unfolding_all rfl) HG3.out HZS.out HC2.out.1 HC2.out.2 ?_); intro w4 hbw4 hSw4; have HBw4 := Lib.hid hbw4; have HSw4 := Lib.hid hSw4; clear hbw4 hSw4))
    refine bodyPost_ret (resB1 rowM rfl rfl HBw4.out HC2.out.1) rfl ⟨M2, by rw [hC2.out], ?_, HI3.out.p32, HI3.out.t32, ?_, ?_⟩
    · rw [HMM.out, sealK, ← HMM.out, ← canM_man, ← hkk.out]; rfl
    · have := HF3.out.saveB HSw4.out (fun k hk => by have := HGW.out; have := HGS.out; omega)
      rw [hM2.out]; exact this.low HB0.out
    · exact HB3.out.trans (HSw4.out.below HB3.out.size (fun k hk => by have := HGW.out; omega))
  | true =>
    have hw := HI3.out.whole
    rw [← hC2.out] at hw
    have HL3 := Lib.hid hw
    obtain ⟨R, hR⟩ : ∃ R, Hid (R = mtagB key M2) := ⟨_, rfl⟩
    have HR32 : Hid (R.length = 32) := by rw [Hid, hR.out]; exact mtagB_len _ _
    obtain ⟨T, hT⟩ : ∃ T, Hid (T = (R.map vb).toArray) := ⟨_, rfl⟩
    have HTG : Hid (Calls Tryz.prog 80 #[.slice a n c, .agg C2] w3 fun e w' => e = .returned (.agg T) ∧ Below w3.heap.size w3 w') := by rw [hC2.out, hT.out, hR.out, hn.out]; exact mtag_calls w3 a key c (HK.out.stay HB3.out) hkl M2 HA3.out hkk.out.symm
    clear hw
    go_wp2_with ((with_reducible refine wpList_load_op (o := ⟨some 12, .load 55 (.tmp 3), _, _, _, _⟩) (by with_unfolding_all rfl) (by with_unfolding_all rfl) (by with_unfolding_all rfl) HL3.out ?_))
    refine (HTG.out).mono ?_
    rintro e w4 ⟨rfl, hb4⟩
    have HI4 := Lib.hid (HI3.out.keep hb4)
    have HG4 := Lib.hid (blk_stay HG3.out hb4)
    have HB4 := Lib.hid (HB3.out.trans (hb4.mono HB3.out.size))
    have HF4 := Lib.hid (HF3.out.stay hb4)
    have HTC : Hid (T.size = 32 ∧ T.all (·.oneCell') = true) := by rw [hT.out]; exact tag_cells R HR32.out
    clear hb4 HL3 HTG HI3 HG3 HB3 HF3 HA3
    go_upto_region 4 with ((with_reducible refine wpList_storeM (o := ⟨none, .store _ (.tmp 14) (.tmp 13), _, _, _, _⟩) (C := cM M2) tagRow.info (.tmp 14) (.tmp 13) (by with_unfolding_all rfl) (by with_unfolding_all rfl) (by with_unfolding_all rfl) (by with_unfolding_all rfl) (by with_unfolding_all rfl) HTC.out.1 HI4.out.blk (by rw [HI4.out.size]; decide) HTC.out.2 ?_); intro w5 hbw5 hSw5; have HBw5 := Lib.hid hbw5; have HSw5 := Lib.hid hSw5; clear hbw5 hSw5)
    obtain ⟨M3, hM3⟩ : ∃ M3 : ManV, Hid (M3 = { M2 with tag := R }) := ⟨_, rfl⟩
    have HI5 : Hid (InM w5 w.heap.size M3) := by
      rw [Hid, hM3.out]
      refine ⟨HBw5.out.trans ?_, HI4.out.p32, HR32.out⟩
      rw [hT.out, show splA (cM M2) 37 _ = cM { M2 with tag := R } from spl_tag HI4.out.p32 HI4.out.t32 HR32.out]
    have hg9 : g < w4.heap.size := (Array.getElem?_eq_some_iff.1 HG4.out).1
    have HG5 : Hid (w5.heap[g]? = some (.cells Z 55 (0, 0))) := (HSw5.out.block g hg9 (by have := HGW.out; omega)).trans HG4.out
    have HB5 : Hid (Below w.heap.size w w5) := HB4.out.trans (HSw5.out.below HB4.out.size (fun k hk => by omega))
    have HF5 : Hid (FreshV w0.heap.size w5 U) := by
      have := HF4.out
      exact this.saveB HSw5.out (fun k hk => by have := HGS.out; omega)
    obtain ⟨C3, hC3⟩ : ∃ C, Hid (C = cM M3) := ⟨_, rfl⟩
    have hw := HI5.out.whole
    rw [← hC3.out] at hw
    have HL5 := Lib.hid hw
    have HC3 : Hid (C3.size = 69 ∧ C3.all (·.oneCell') = true) := by rw [hC3.out]; exact ⟨HI5.out.size, cM_one _⟩
    clear hw hg9 HI4 HG4 HB4 HF4
    go_wp2_with (first | (with_reducible refine wpList_load_op (o := ⟨some 15, .load 55 (.tmp 3), _, _, _, _⟩) (by with_unfolding_all rfl) (by with_unfolding_all rfl) (by with_unfolding_all rfl) HL5.out ?_) | ((with_reducible refine wpList_storeB (o := ⟨none, .store _ (.tmp 4) (.tmp 15), _, _, _, _⟩) rowM (.tmp 4) (.tmp 15) (by with_unfolding_all rfl) (by with_unfolding_all rfl) (by with_unfolding_all rfl) (by with_unfolding_all rfl) (by with_unfolding_all rfl) HG5.out HZS.out HC3.out.1 HC3.out.2 ?_); intro w6 hbw6 hSw6; have HBw6 := Lib.hid hbw6; have HSw6 := Lib.hid hSw6; clear hbw6 hSw6))
    refine bodyPost_ret (resB1 rowM rfl rfl HBw6.out HC3.out.1) rfl ⟨M3, by rw [hC3.out], ?_, HI5.out.p32, HI5.out.t32, ?_, ?_⟩
    · have e1 : canK M.man = true := by rw [← HMM.out, ← canM_man]; exact hkk.out.symm
      have e2 : M3.man = { M2.man with tag := R } := by rw [hM3.out]; rfl
      rw [e2, HMM.out, sealK, if_pos e1, hR.out, mtagB_man, HMM.out]
    · have := HF5.out.saveB HSw6.out (fun k hk => by have := HGW.out; have := HGS.out; omega)
      rw [hM3.out, hM2.out]; exact this.low HB0.out
    · exact HB5.out.trans (HSw6.out.below HB5.out.size (fun k hk => by have := HGW.out; omega))
end Go.Proofs.YtlholdllibghbaaGreat

