/- Texts of the proof, one behind the other: Purpose, HmacSum, Derive, ManHead. No condition but those that each names. -/
import Derived.Test.YtlholdllibghbaaGreatG27
import Derived.Test.YtlholdllibghbaaGreatG26
import Derived.Test.YtlholdllibghbaaGreatG05
import Derived.StillTailTactics
import Derived.Deep.RegionLaw
import Derived.BigRegion
import Derived.Test.YtlholdllibghbaaGreatG04
import Derived.Test.YtlholdllibghbaaGreatG25
import Derived.Test.YtlholdllibghbaaGreatG20
import Derived.Test.YtlholdllibghbaaGreatG10
import Derived.Test.YtlholdllibghbaaGreatG18
import Derived.Test.YtlholdllibghbaaGreatG21
/- hmac.purpose: a label, a zero, the numbers. Walked. -/
namespace Go.Proofs.YtlholdllibghbaaGreat
open Go Go.RowKit Go.Cit

def Clear (w : World) (a : Option Addr) (d : Sl UInt8) : Prop := Row w d.a d.l d.c ∧ ∀ g, Go.Cit.blk d.a = some g → g < w.heap.size ∧ Go.Cit.blk a ≠ some g
theorem Clear.grown {w w' : World} {a a2 : Option Addr} {d : Sl UInt8} (h : Clear w a d) (hg : w.grownBy w' (Go.Cit.blk a)) (hn : Near w.heap.size a a2) : Clear w' a2 d := by
  refine ⟨h.1.save (Save.grown hg) (fun g hg' e => (h.2 g hg').2 e.symm), fun g hg' => ⟨Nat.lt_of_lt_of_le (h.2 g hg').1 hg.size, fun e => ?_⟩⟩
  rcases hn g e with h1 | h1
  · exact (h.2 g hg').2 h1
  · have := (h.2 g hg').1; omega
theorem Clear.stay {w w' : World} {a : Option Addr} {d : Sl UInt8} (h : Clear w a d) (hb : Below w.heap.size w w') : Clear w' a d :=
  ⟨h.1.stay hb, fun g hg => ⟨Nat.lt_of_lt_of_le (h.2 g hg).1 hb.size, (h.2 g hg).2⟩⟩
theorem parts_of {W : World} {b o : Nat} {ds : List (Sl UInt8)} {c : Nat} (h : Vec sf 1 W (some ⟨b, o, none⟩) ds c) (hr : ∀ d ∈ ds, Row W d.a d.l d.c) : Lib.PartsAt W ⟨b, o, none⟩ (ds.map sv) (ds.map (·.l)) := by
  refine ⟨by simp, fun i v hv => ?_, fun i v l hv hl => ?_⟩
  · rw [List.getElem?_map] at hv
    obtain ⟨d, hd, rfl⟩ := Option.map_eq_some_iff.1 hv
    obtain ⟨hi, rfl⟩ := List.getElem?_eq_some_iff.1 hd
    have := h.cell1 (v := sv) i hi
    simpa [ad, Addr.add_mid] using this
  · rw [List.getElem?_map] at hv hl
    obtain ⟨d, hd, rfl⟩ := Option.map_eq_some_iff.1 hv
    obtain ⟨d2, hd2, rfl⟩ := Option.map_eq_some_iff.1 hl
    obtain rfl : d = d2 := by rw [hd] at hd2; exact Option.some.inj hd2
    exact holds_of_row (hr d (List.mem_of_getElem? hd))
theorem partsB_len (s : List UInt8) (zs : List Int) : (formB s zs).length = s.length + 1 + 8 * zs.length := by
  unfold formB
  rw [List.length_append, List.length_append]
  congr 1
  induction zs with
  | nil => rfl
  | cons z zs ih => rw [List.map_cons, List.flatten_cons, List.length_append, ih, rowB_length, List.length_cons]; omega

theorem string_size {w w1 : World} {l : List UInt8} {v : Value} (h : (convert 9 40 (.string ⟨l.toArray⟩)).run Tryz.prog w = .ok v w1) : w1.heap.size = w.heap.size + 1 := by
  have hr := Lib.run_convert_string_bytes (P := Tryz.prog) w 9 40 5 ⟨l.toArray⟩ Tryz.underlying9 Tryz.underlying40 Tryz.underlying5
  have he := hr.symm.trans h
  simp only [Result.ok.injEq] at he
  rw [← he.2, Lib.bytesWorld_size]

set_option maxRecDepth 100000 in
set_option maxHeartbeats 4000000 in
theorem purpose_calls (w : World) (s : List UInt8) (hs9 : s.length ≤ 1000) (a : Option Addr) (zs : List Int) (c : Nat) (h : Ints w a zs c) (hz9 : zs.length ≤ 1000) :
    Calls Tryz.prog 220 #[.string ⟨s.toArray⟩, .slice a zs.length c] w fun e w' => ∃ a' c', e = .returned (.slice a' (formB s zs).length c') ∧ Row w' a' (formB s zs) c' ∧ Below w.heap.size w w' := by
  have HSP := Lib.hid (hstring_bytes w s (by omega))
  have HZ := Lib.hid h
  obtain ⟨n, hn⟩ : ∃ n, Hid (n = zs.length) := ⟨_, rfl⟩
  rw [← hn.out]
  have hn9 : n ≤ 1000 := by rw [hn.out]; exact hz9
  clear h
  obtain ⟨c1, w1, hr1, hS1, hb1⟩ := HSP.out
  have HS1 := Lib.hid hS1
  have HB1 := Lib.hid hb1
  clear hS1 hb1 HSP
  go_enter Tryz.func220, Tryz.ntmps220
  go_wp2_with fail
  obtain ⟨d0, hd0⟩ : ∃ d0 : Sl UInt8, Hid (d0 = ⟨some ⟨w.heap.size, 0, none⟩, c1, s⟩) := ⟨_, rfl⟩
  obtain ⟨d1, hd1⟩ : ∃ d1 : Sl UInt8, Hid (d1 = ⟨some ⟨w1.heap.size, 0, none⟩, 1, [0]⟩) := ⟨_, rfl⟩
  obtain ⟨ds0, hds0⟩ : ∃ ds0 : List (Sl UInt8), Hid (ds0 = [d0, d1]) := ⟨_, rfl⟩
  obtain ⟨wx, hwx⟩ : ∃ wx, Hid (wx = w1.alloc (.cells #[.int .u8 0] 5)) := ⟨_, rfl⟩
  have HBX : Hid (Below w1.heap.size w1 wx) := by rw [hwx.out]; exact (Below.refl _ _).alloc (Nat.le_refl _) _
  have HXS : Hid (wx.heap.size = w1.heap.size + 1) := by rw [Hid, hwx.out]; simp
  have HLT : Hid (Row wx (some ⟨w1.heap.size, 0, none⟩) [0] 1) := by rw [hwx.out]; exact (own_lit w1 #[.int .u8 0] 5 [0] (by rfl) (by simp)).isRow
  have HV0 : Hid (VOwn sf 1 40 wx.heap.size (wx.alloc (.cells #[.slice (some ⟨w.heap.size, 0, none⟩) s.length c1, .slice (some ⟨w1.heap.size, 0, none⟩) 1 1] 40)) (some ⟨wx.heap.size, 0, none⟩) ds0 ds0.length) := by
    refine vown_lit wx _ _ 1 ds0 sf_len ?_ (by rw [hds0.out]; simp)
    rw [hds0.out, hd0.out, hd1.out]
    rfl
  have HSZ := Lib.hid HB1.out.size
  have HZ1 := Lib.hid (string_size hr1)
  have HXB : Hid (Below w.heap.size w wx) := HB1.out.trans (HBX.out.mono HSZ.out)
  have HSX := Lib.hid (HS1.out.stay HBX.out)
  rw [← hwx.out]
  have e1 : w1.heap.size + 1 = wx.heap.size := HXS.out.symm
  rw [e1]
  clear e1
  obtain ⟨wy, hwy⟩ : ∃ wy, Hid (wy = wx.alloc (.cells #[.slice (some ⟨w.heap.size, 0, none⟩) s.length c1, .slice (some ⟨w1.heap.size, 0, none⟩) 1 1] 40)) := ⟨_, rfl⟩
  rw [← hwy.out] at HV0 ⊢
  have HYB0 : Hid (Below wx.heap.size wx wy) := by rw [hwy.out]; exact (Below.refl _ _).alloc (Nat.le_refl _) _
  have HYB : Hid (Below w.heap.size w wy) := HXB.out.trans (HYB0.out.mono HXB.out.size)
  have HYS : Hid (wy.heap.size = wx.heap.size + 1) := by rw [Hid, hwy.out]; simp
  have HC0 : Hid (∀ d ∈ ds0, Clear wy (some ⟨wx.heap.size, 0, none⟩) d) := by
    rw [hds0.out]
    have h1 := HXS.out
    have h2 := HYS.out
    have h3 := HZ1.out
    have h4 := HYB0.out
    intro d hd
    rcases List.mem_cons.1 hd with rfl | hd
    · rw [hd0.out]
      refine ⟨(HSX.out.stay h4), fun g hg => ?_⟩
      simp [Go.Cit.blk] at hg ⊢
      omega
    · obtain rfl : d = d1 := by simpa using hd
      rw [hd1.out]
      refine ⟨(HLT.out.stay h4), fun g hg => ?_⟩
      simp [Go.Cit.blk] at hg ⊢
      omega
  have HL0 : Hid (ds0.length = 2) := by rw [Hid, hds0.out]; rfl
  clear hwx hwy
  go_loopw [5, 14] (fun t i wr => ∃ (k : Nat) (a' : Option Addr) (c' : Nat) (ds : List (Sl UInt8)), Hid (ds.map (·.l) = s :: [0] :: (zs.take k).map fun z => rowB (qOf z) 8) ∧ Hid (ds.length = 2 + k) ∧ k ≤ n ∧ i = .int .i64 k ∧ t = .slice a' ds.length c' ∧ Hid (VOwn sf 1 40 w.heap.size wr a' ds c') ∧ Hid (∀ d ∈ ds, Clear wr a' d) ∧ Hid (Below w.heap.size w wr)) (fun _ i _ => n - (intOf i).toNat)
  case atStart => exact ⟨0, _, 2, ds0, by rw [Hid, hds0.out, hd0.out, hd1.out]; rfl, HL0, Nat.zero_le _, rfl, by rw [HL0.out], by have := HV0.out; rw [HL0.out] at this; exact this.low HXB.out.size, HC0, HYB⟩
  case round =>
    obtain ⟨k, a', c', ds, HX, HL, hk, rfl, rfl, HO, HCl, HB⟩ := hrel
    by_cases hlt : k < n
    · have hkz : k < zs.length := by rw [← hn.out]; exact hlt
      have hZ := HZ.out.stay HB.out
      have i0 := hZ.index k hkz
      have e0 := hZ.cell k hkz
      rw [← hn.out] at i0
      obtain ⟨z, hz⟩ : ∃ z, Hid (z = zs[k]) := ⟨zs[k], rfl⟩
      rw [← hz.out] at e0
      clear hZ
      have hc := put64_calls wr (qOf z)
      go_wp2_with fail
      rw [conv_q z]
      refine Calls.mono hc ?_
      rintro e w4 ⟨a4, c4, rfl, hO4, hb4⟩
      have hbs := HB.out.size
      have hbk : ∀ {g : Nat}, Go.Cit.blk a4 = some g → wr.heap.size ≤ g ∧ g < w4.heap.size := fun hg => hO4.blk_ge hg
      have HO4 : Hid (Row w4 a4 (rowB (qOf z) 8) c4) := hO4.isRow
      have HOs := Lib.hid (HO.out.stay hb4)
      have HB4 := Lib.hid (HB.out.trans (hb4.mono hbs))
      have HR8 := Lib.hid (rowB_length (qOf z) 8)
      obtain ⟨y, hy⟩ : ∃ y : Sl UInt8, Hid (y = ⟨a4, c4, rowB (qOf z) 8⟩) := ⟨_, rfl⟩
      have HCY : Hid (∀ d ∈ ds ++ [y], Clear w4 a' d) := by
        intro d hd
        rcases List.mem_append.1 hd with hd | hd
        · exact (HCl.out d hd).stay hb4
        · obtain rfl : d = y := by simpa using hd
          rw [hy.out]
          refine ⟨HO4.out, fun g hg => ⟨(hbk hg).2, fun e => ?_⟩⟩
          have h1 := (hbk hg).1
          have h2 := (HO.out.blk_ge e).2
          omega
      have HYC : Hid (#[Value.slice a4 8 c4] = (sf y).toArray) := by rw [Hid, hy.out]; show _ = #[Value.slice a4 (rowB (qOf z) 8).length c4]; rw [HR8.out]
      obtain ⟨ds2, hds2⟩ : ∃ ds2, Hid (ds2 = ds ++ [y]) := ⟨ds ++ [y], rfl⟩
      have HNX : Hid (ds2.map (·.l) = s :: [0] :: (zs.take (k + 1)).map fun z => rowB (qOf z) 8) := by
        rw [Hid, hds2.out, List.map_append, HX.out, hy.out, ← take_snoc zs k hkz, List.map_append, ← hz.out]; rfl
      have HL8 : Hid (ds2.length = 2 + (k + 1)) := by rw [Hid, hds2.out, List.length_append, HL.out]; rfl
      have hdl : ds.length + 1 ≤ 1000000000 := by rw [HL.out]; omega
      clear hO4 hb4 hbs hc hbk
      rw [← hds2.out] at HCY
      go_wp2_with (first
        | ((with_reducible refine wpList_vapp1 (o := ⟨some 23, .call _, _, _, _, _⟩) rowsT sf_len sf_one (y := y) (.tmp 18) (.tmp 22) (by with_unfolding_all rfl) (by with_unfolding_all rfl) HOs.out HYC.out hdl HB4.out.size (by with_unfolding_all rfl) (by with_unfolding_all rfl) ?_); intro a5 c5 w5 hO5 hg5 hn5; rw [← hds2.out] at hO5 ⊢; have HO5 := Lib.hid hO5; have HB5 := Lib.hid (HB4.out.trans (HOs.out.grown hg5 HB4.out.size)); have HC5 : Hid (∀ d ∈ ds2, Clear w5 a5 d) := (fun d hd => (HCY.out d hd).grown hg5 hn5); clear hO5 hg5 hn5))
      go_roundw
      case rel => exact ⟨k + 1, a5, c5, ds2, HNX, HL8, by omega, by go_num, rfl, HO5, HC5, HB5⟩
      case measure => simp [intOf]; omega
    · have hk2 : k = n := by omega
      subst hk2
      have hV := HO.out.vec sf_len
      obtain ⟨b, off, rfl⟩ := hV.spot (by intro h0; have := HL.out; rw [h0] at this; simp at this; omega)
      have hF : (ds.map (·.l)).flatten = formB s zs := by
        rw [HX.out, hn.out, List.take_length]
        unfold formB
        simp
      have hcc := cat_calls wr b off c' (ds.map sv) (ds.map (·.l)) (parts_of hV (fun d hd => (HCl.out d hd).1)) (by rw [List.length_map]; exact hV.le) (by rw [hF, partsB_len]; omega) (by rw [List.length_map, HL.out]; omega)
      rw [hF, List.length_map] at hcc
      have HCC := Lib.hid hcc
      clear hcc hF hV
      go_wp2_with fail
      refine HCC.out.mono ?_
      rintro e w6 ⟨a6, c6, rfl, hm6, hb6⟩
      have HM6 := Lib.hid hm6.row
      have HB6 := Lib.hid (HB.out.trans (hb6.mono HB.out.size))
      clear hm6 hb6
      go_wp2_with fail
      go_ret
      exact ⟨a6, c6, rfl, HM6.out, HB6.out⟩
end Go.Proofs.YtlholdllibghbaaGreat

/- hmac.masks, hmac.Sum: walked. -/
namespace Go.Proofs.YtlholdllibghbaaGreat
open Go Go.RowKit Go.Cit

section
variable {P : Program} {w : World} {o : Oper} {ρ : Operand → Value} {post : Value → World → Prop}
theorem gp_callv {f : FuncId} {x : Operand} {xs : Array Operand} {ts : Array TypeId} {cap : Array Value} (h : o.op = .call { callee := .value x, args := xs, argTypes := ts }) (hf : ρ x = .func (.func f) #[] cap)
    (args all : Array Value) (hall : args ++ cap = all) (hcf : ∀ w, (callFunc f all).run P w = .ok (.enter f all) w) (ha : xs.map ρ = args) (hc : Calls P f all w fun e w'' => ∃ v, e = .returned v ∧ post v w'') : GivesP P post ((execOp ρ o).run P w) := by
  unfold execOp; rw [h]; dsimp only; unfold resolve; dsimp only; rw [hf, ha]
  have e2 : (invoke (.fn (.func f) cap) args : Sem Next).run P w = .ok (.enter f all) w := by
    unfold invoke; dsimp only; rw [hall]; exact hcf w
  simp only [Deferred.ofValue, Sem.run_bind, Sem.run_pure, Result.andThen, Array.empty_append, e2]
  exact hc
end
def maskL (l : List UInt8) (by_ : UInt8) : List UInt8 := l.map fun x => bXor x by_
def longK (k : List UInt8) : List UInt8 := padL (shortK k) 64
theorem longK_len (k : List UInt8) : (longK k).length = 64 := by
  have := shortK_len k
  unfold longK padL
  rw [List.length_append, List.length_replicate]; omega
def hmacB (k b : List UInt8) : List UInt8 := sumB (maskL (longK k) 92 ++ sumB (maskL (longK k) 54 ++ b))
theorem hmacB_len (k b : List UInt8) : (hmacB k b).length = 32 := sumB_len _
theorem mask_get (l : List UInt8) (x : UInt8) (k : Nat) (h : k < l.length) : (maskL (l.take k) x ++ l.drop k)[k]? = some l[k] := by
  have hl : (maskL (l.take k) x).length = k := by unfold maskL; rw [List.length_map, List.length_take]; omega
  rw [List.getElem?_append_right (by omega), hl, Nat.sub_self, List.drop_eq_getElem_cons h]; rfl
theorem mask_set (l : List UInt8) (x : UInt8) (k : Nat) (h : k < l.length) : (maskL (l.take k) x ++ l.drop k).set k (bXor l[k] x) = maskL (l.take (k + 1)) x ++ l.drop (k + 1) := by
  have hl : (maskL (l.take k) x).length = k := by unfold maskL; rw [List.length_map, List.length_take]; omega
  rw [List.set_append_right _ _ (by omega), hl, Nat.sub_self, List.drop_eq_getElem_cons h, List.set_cons_zero, List.take_succ_eq_append_getElem h]
  unfold maskL
  rw [List.map_append, List.append_assoc]; rfl
theorem maskL_len (l : List UInt8) (x : UInt8) : (maskL l x).length = l.length := by simp [maskL]

set_option maxRecDepth 100000 in
set_option maxHeartbeats 2000000 in
theorem mask1_calls (w : World) (b : Nat) (x : UInt8) (a : Option Addr) (l : List UInt8) (c : Nat) (hc : w.cell? ⟨b, 0, none⟩ = some (.slice a l.length c)) (h : Row w a l c) (hl : l.length ≤ 1000000) :
    Calls Tryz.prog 245 #[vb x, .pointer (some ⟨b, 0, none⟩)] w fun e w' => ∃ a' c', e = .returned (.slice a' l.length c') ∧ Cit.Own 5 w.heap.size w' a' (maskL l x) c' ∧ Below w.heap.size w w' := by
  have HC := Lib.hid (hclone_calls w a l c h (by omega))
  clear h
  go_enter Tryz.func245, Tryz.ntmps245
  go_wp2_with fail
  refine HC.out.mono ?_
  rintro e w1 ⟨a1, c1, rfl, hO1, hb1⟩
  clear hc HC
  go_wp2_with fail
  go_loopw [10] (fun i wr => ∃ (k : Nat) (m : List UInt8), k ≤ l.length ∧ i = .int .i64 k ∧ Hid (m.length = l.length) ∧ Hid (m = maskL (l.take k) x ++ l.drop k) ∧ Cit.Own 5 w.heap.size wr a1 m c1 ∧ Below w.heap.size w wr) (fun i _ => l.length - (intOf i).toNat)
  case atStart => exact ⟨0, l, Nat.zero_le _, rfl, rfl, by simp [Hid, maskL], hO1, hb1⟩
  case round =>
    clear hO1 hb1
    obtain ⟨k, m, hk, rfl, HML, HM, hO, B⟩ := hrel
    by_cases hlt : k < l.length
    · have d1 : decide (k < l.length) = true := by simpa using hlt
      have hkm : k < m.length := by rw [HML.out]; exact hlt
      have hr := hO.isRow
      have ik := hr.index bt.slice bt.sz k hkm
      have ek := hr.cell k hkm
      have fk := hO.frozen k hkm
      obtain ⟨hst, hgr⟩ := Cit.Own.stored hO k hkm (bXor m[k] x)
      have hmk : m[k] = l[k] := by
        have h1 := mask_get l x k hlt
        rw [← HM.out, List.getElem?_eq_getElem hkm] at h1
        exact Option.some.inj h1
      have HS : Hid (m.set k (bXor m[k] x) = maskL (l.take (k + 1)) x ++ l.drop (k + 1)) := by
        rw [Hid, hmk, HM.out, mask_set l x k hlt]
      have HO2 := Lib.hid hst
      have HB2 := Lib.hid (B.trans (grown_below hgr B.size (fun j hj => (hO.blk_ge hj).1)))
      rw [HML.out] at ik
      obtain ⟨y, hy⟩ : ∃ y, m[k] = y := ⟨_, rfl⟩
      rw [hy] at ek HO2 HB2 HS
      clear hst hgr hmk hy hr hkm hO
      go_wp2_with fail
      go_roundw
      case rel => exact ⟨k + 1, _, by omega, by go_num, by rw [Hid, List.length_set]; exact HML.out, HS, HO2.out, HB2.out⟩
      case measure => simp [intOf]; omega
    · have d1 : decide (k < l.length) = false := by simpa using hlt
      have HM2 : Hid (m = maskL l x) := by
        rw [Hid, HM.out, List.take_of_length_le (by omega), List.drop_of_length_le (by omega), List.append_nil]
      go_wp2_with fail
      go_ret
      exact ⟨a1, c1, rfl, by rw [← HM2.out]; exact hO, B⟩

set_option maxRecDepth 100000 in
set_option maxHeartbeats 2000000 in
theorem masks_calls (w : World) (a : Option Addr) (k : List UInt8) (c : Nat) (h : Row w a k c) (hl : k.length ≤ 10000000) :
    Calls Tryz.prog 219 #[.slice a k.length c] w fun e w' => ∃ b a' c', e = .returned (.func (.func 245) #[] #[.pointer (some ⟨b, 0, none⟩)]) ∧ w'.cell? ⟨b, 0, none⟩ = some (.slice a' (longK k).length c') ∧ Row w' a' (longK k) c' ∧ w.heap.size ≤ b ∧ (∀ g, Go.Cit.blk a' = some g → w.heap.size ≤ g) ∧ Below w.heap.size w w' := by
  have hmf : ∀ (fn : Fn) (first cap : Array Value) (w : World), (Instr.makeFunc fn first cap).run Tryz.prog w = .ok (.func fn first cap) w := fun _ _ _ _ => rfl
  have HS := Lib.hid (short_calls w a k c h hl)
  clear h
  go_enter Tryz.func219, Tryz.ntmps219
  go_wp2_with fail
  refine HS.out.mono ?_
  rintro e w1 ⟨a1, c1, rfl, hO1, hb1⟩
  have hsl := shortK_len k
  have HP := Lib.hid (padded_calls w1 a1 (shortK k) c1 64 hO1.isRow (by omega) (by decide))
  clear hO1 hsl
  go_wp2_with fail
  refine HP.out.mono ?_
  rintro e w2 ⟨a2, c2, rfl, hm2, hb2⟩
  have hR : Row w2 a2 (longK k) c2 := hm2.row
  have HNW : Hid (∀ g, Go.Cit.blk a2 = some g → w.heap.size ≤ g) := fun g hg => Nat.le_trans hb1.size (hm2.new g hg)
  have HR := Lib.hid hR
  have HB2 := Lib.hid (hb1.trans (hb2.mono hb1.size))
  rw [show padL (shortK k) 64 = longK k from rfl]
  clear hR hm2 hb1 hb2
  go_wp2_with fail
  go_ret
  have hz : Below w2.heap.size w2 (w2.alloc (.cells #[.slice a2 (longK k).length c2] 40)) := (Below.refl _ _).alloc (Nat.le_refl _) _
  refine ⟨w2.heap.size, a2, c2, rfl, ?_, HR.out.stay hz, HB2.out.size, HNW.out, HB2.out.trans (hz.mono HB2.out.size)⟩
  rw [World.cell?, heap_alloc_new]; rfl

def hsT (r : Nat) (vf : Value) (M L : List UInt8) (vs : Value) (D : Array Value) : Nat → Value → World → Prop
  | 15, v, _ => v = vf
  | 16, v, w => ∃ a c, v = .slice a 64 c ∧ Row w a M c ∧ ∀ g, Go.Cit.blk a = some g → g ≠ r
  | 17, v, _ => v = vs
  | 18, v, w => ∃ g a c, v = .slice (some ⟨g, 0, none⟩) 2 2 ∧ g ≠ r ∧ w.cell? ⟨g, 0, none⟩ = some (.slice a M.length c) ∧ w.cell? ⟨g, 1, none⟩ = some vs ∧ Row w a M c ∧ ∀ g', Go.Cit.blk a = some g' → g' ≠ r
  | 19, v, w => ∃ a c, v = .slice a L.length c ∧ Row w a L c ∧ ∀ g, Go.Cit.blk a = some g → g ≠ r
  | 20, v, _ => v = .agg D
  | _, _, _ => True
theorem hsT_stay {r : Nat} {vf : Value} {M L : List UInt8} {vs : Value} {D : Array Value} {d : Nat} {v : Value} {wx w' : World} (hG : Save (· ≠ r) wx w') (h : hsT r vf M L vs D d v wx) : hsT r vf M L vs D d v w' := by
  unfold hsT at h ⊢
  split at h <;> try exact h
  · obtain ⟨a, c, h1, h2, h3⟩ := h
    exact ⟨a, c, h1, h2.save hG h3, h3⟩
  · obtain ⟨g, a, c, h1, h2, h3, h4, h5, h6⟩ := h
    exact ⟨g, a, c, h1, h2, (hG.cell (World.block_lt_of_cell? _ _ h3) h2).trans h3, (hG.cell (World.block_lt_of_cell? _ _ h4) h2).trans h4, h5.save hG h6, h6⟩
  · obtain ⟨a, c, h1, h2, h3⟩ := h
    exact ⟨a, c, h1, h2.save hG h3, h3⟩
set_option maxRecDepth 100000 in
set_option maxHeartbeats 4000000 in
theorem hsum_calls (w : World) (a : Option Addr) (k : List UInt8) (c : Nat) (h : Row w a k c) (hl : k.length ≤ 1000000) (a2 : Option Addr) (b : List UInt8) (c2 : Nat) (h2 : Row w a2 b c2) (hl2 : b.length ≤ 1000000) :
    Calls Tryz.prog 164 #[.slice a k.length c, .slice a2 b.length c2] w fun e w' => e = .returned (.agg ((hmacB k b).map vb).toArray) ∧ Below w.heap.size w w' := by
  have HA := Lib.hid (fun ρ d ty ps af w => salloc_tag ρ d ty ps (af := af) w)
  obtain ⟨X, hX⟩ : ∃ Y, Hid (Y = ((List.replicate 32 (0 : UInt8)).map vb).toArray) := ⟨_, rfl⟩
  rw [← hX.out] at HA
  have HX : Hid (X.size = 32) := by rw [Hid, hX.out]; simp
  have B0 : Below w.heap.size w (w.alloc (.cells X 53)) := (Below.refl _ _).alloc (Nat.le_refl _) _
  have x0 : (w.alloc (.cells X 53)).heap[w.heap.size]? = some (.cells X 53 (0, 0)) := heap_alloc_new w _
  have HB0 := Lib.hid (And.intro x0 B0)
  have HM0 := Lib.hid (masks_calls _ a k c (h.stay B0) (by omega))
  have HR0 := Lib.hid (h2.stay B0)
  clear B0 x0 h h2
  go_enter Tryz.func164, Tryz.ntmps164
  go_wp2_with (first
    | ((with_reducible refine wpList_value (o := ⟨some 4, .alloc _, _, _, _, _⟩) (by with_unfolding_all rfl) (HA.out _ _ _ _ _ _) ?_)))
  refine HM0.out.mono ?_
  rintro e w1 ⟨bf, af, cf, rfl, hcf, hrf, hbf, hnf, hb1⟩
  rw [World.size_alloc] at hbf
  have hnf' : ∀ g, Go.Cit.blk af = some g → w.heap.size + 1 ≤ g := fun g hg => by have := hnf g hg; simp at this; omega
  have hsz1 : w.heap.size < w1.heap.size := by have := hb1.size; simp at this; omega
  have HX1 : Hid (w1.heap[w.heap.size]? = some (.cells X 53 (0, 0))) := (hb1.block _ (by simp)).trans HB0.out.1
  have B1 := HB0.out.2.trans (hb1.mono (by simp))
  have HR1 := Lib.hid (HR0.out.stay hb1)
  have hk : Calls Tryz.prog 245 #[.int .u8 54, .pointer (some ⟨bf, 0, none⟩)] w1 _ := mask1_calls w1 bf 54 af (longK k) cf hcf hrf (by rw [longK_len]; decide)
  rw [longK_len] at hk
  have HK := Lib.hid hk
  have HCF := Lib.hid (And.intro hcf (And.intro hrf hnf'))
  clear hb1 hcf hrf hnf hnf' HM0 HR0 hk
  go_wp2_with fail
  refine HK.out.mono ?_
  rintro e w2 ⟨a3, c3, rfl, hO3, hb2⟩
  have B2 := B1.trans (hb2.mono B1.size)
  have HX2 : Hid (w2.heap[w.heap.size]? = some (.cells X 53 (0, 0))) := (hb2.block _ hsz1).trans HX1.out
  have hsz2 : w.heap.size < w2.heap.size := by have := hb2.size; omega
  have HR2 := Lib.hid (HR1.out.stay hb2)
  have HCF2 : Hid (w2.cell? ⟨bf, 0, none⟩ = some (.slice af (longK k).length cf) ∧ Row w2 af (longK k) cf) := ⟨(hb2.cell (World.block_lt_of_cell? _ _ HCF.out.1)).trans HCF.out.1, HCF.out.2.1.stay hb2⟩
  have HNF := Lib.hid HCF.out.2.2
  have hm64 : (maskL (longK k) 54).length = 64 := by rw [maskL_len, longK_len]
  have hc2 := cat2_calls w2 40 hO3.isRow HR2.out (by rw [hm64]; decide) (by omega)
  rw [hm64] at hc2
  have HC2 := Lib.hid hc2
  clear hb2 B1 hO3 HX1 HR1 HK HCF hc2
  go_wp2_with fail
  refine HC2.out.mono ?_
  rintro e w3 ⟨a4, c4, rfl, hm4, hb3⟩
  have B3 := B2.trans (hb3.mono B2.size)
  have hsz3 : w.heap.size < w3.heap.size := by have := hb3.size; omega
  have HX3 : Hid (w3.heap[w.heap.size]? = some (.cells X 53 (0, 0))) := (hb3.block _ hsz2).trans HX2.out
  have HCF3 : Hid (w3.cell? ⟨bf, 0, none⟩ = some (.slice af (longK k).length cf) ∧ Row w3 af (longK k) cf) := ⟨(hb3.cell (World.block_lt_of_cell? _ _ HCF2.out.1)).trans HCF2.out.1, HCF2.out.2.stay hb3⟩
  obtain ⟨I, hI⟩ : ∃ I, Hid (I = maskL (longK k) 54 ++ b) := ⟨_, rfl⟩
  rw [← hI.out] at hm4 ⊢
  have hIl : I.length ≤ 2000000 := by rw [hI.out, List.length_append, hm64]; omega
  have HS3 := Lib.hid (sum_calls w3 a4 I c4 hm4.row (by omega))
  clear hb3 B2 hm4 HX2 HCF2 HC2 hm64
  go_wp2_with fail
  refine HS3.out.mono ?_
  rintro e w4 ⟨rfl, hb4⟩
  have B4 := B3.trans (hb4.mono B3.size)
  have hsz4 : w.heap.size < w4.heap.size := by have := hb4.size; omega
  have HX4 : Hid (w4.heap[w.heap.size]? = some (.cells X 53 (0, 0))) := (hb4.block _ hsz3).trans HX3.out
  have HCF4 : Hid (w4.cell? ⟨bf, 0, none⟩ = some (.slice af (longK k).length cf) ∧ Row w4 af (longK k) cf) := ⟨(hb4.cell (World.block_lt_of_cell? _ _ HCF3.out.1)).trans HCF3.out.1, HCF3.out.2.stay hb4⟩
  obtain ⟨D, hD⟩ : ∃ D, Hid (D = ((sumB I).map vb).toArray) := ⟨_, rfl⟩
  rw [← hD.out]
  have HD : Hid (D.size = 32) := by rw [Hid, hD.out]; simpa using sumB_len I
  have HDo : Hid (D.all (·.oneCell') = true) := by rw [Hid, hD.out]; exact arrB_ok _
  have HN4 : Hid ((w4.alloc (.cells X 53)).heap[w4.heap.size]? = some (.cells X 53 (0, 0))) := heap_alloc_new _ _
  clear hb4 B3 HX3 HCF3 HS3
  go_wp2_with (first
    | ((with_reducible refine wpList_value (o := ⟨some 6, .alloc _, _, _, _, _⟩) (by with_unfolding_all rfl) (HA.out _ _ _ _ _ _) ?_))
    | ((with_reducible refine wpList_storeB (o := ⟨none, .store _ (.tmp 6) (.tmp 14), _, _, _, _⟩) row_tag (.tmp 6) (.tmp 14) (by with_unfolding_all rfl) (by with_unfolding_all rfl) (by with_unfolding_all rfl) (by with_unfolding_all rfl) (by with_unfolding_all rfl) HN4.out HX.out HD.out HDo.out ?_); intro w5 hb5 hS5; have HB5 := Lib.hid hb5; have HS5 := Lib.hid hS5; clear hb5 hS5))
  have hs5 := HS5.out.size
  rw [World.size_alloc] at hs5
  have hA5 : Below w4.heap.size w4 w5 := ((Below.refl _ w4).alloc (Nat.le_refl _) (.cells X 53)).trans (HS5.out.below (by simp) (fun j hj => by omega))
  have B5 := B4.trans (hA5.mono B4.size)
  have HX5 : Hid (w5.heap[w.heap.size]? = some (.cells X 53 (0, 0))) := (hA5.block _ hsz4).trans HX4.out
  have HCF5 : Hid (w5.cell? ⟨bf, 0, none⟩ = some (.slice af (longK k).length cf) ∧ Row w5 af (longK k) cf) := ⟨(hA5.cell (World.block_lt_of_cell? _ _ HCF4.out.1)).trans HCF4.out.1, HCF4.out.2.stay hA5⟩
  have HS1 : Hid (Row w5 (some ⟨w4.heap.size, 0, none⟩) (sumB I) 32) := by
    have hx := HB5.out
    rw [hD.out] at hx
    have := ArrB.row (T := 53) (l := sumB I) hx (by rw [sumB_len]; decide)
    rwa [sumB_len] at this
  obtain ⟨r, hr⟩ : ∃ r, r = w.heap.size := ⟨_, rfl⟩
  obtain ⟨t6, ht6⟩ : ∃ t, t = w4.heap.size := ⟨_, rfl⟩
  rw [← ht6] at HS1 ⊢
  have htr : t6 ≠ r := by omega
  rw [← hr] at HX5 hbf HNF B5 ⊢
  obtain ⟨F, hF⟩ : ∃ F, Hid (F = ((hmacB k b).map vb).toArray) := ⟨_, rfl⟩
  have HF : Hid (F.size = 32) := by rw [Hid, hF.out]; simpa using hmacB_len k b
  have HFo : Hid (F.all (·.oneCell') = true) := by rw [Hid, hF.out]; exact arrB_ok _
  obtain ⟨M, hM⟩ : ∃ M, Hid (M = maskL (longK k) 92) := ⟨_, rfl⟩
  have HML : Hid (M.length = 64) := by rw [Hid, hM.out, maskL_len, longK_len]
  have HFE : Hid (((sumB (M ++ sumB I)).map vb).toArray = F) := by rw [Hid, hF.out, hM.out, hI.out]; rfl
  clear HA HB0 HX4 HCF4 HB5 HS5 hA5 HD HDo hD hs5 ht6 B4 HR2 hsz1 hsz2 hsz3 hsz4 HN4
  simp only [Act.put, List.setIfInBounds_toArray, List.set_cons_succ, List.set_cons_zero]
  refine wp_region_ph (fun δ wx => Save (· ≠ r) w5 wx ∧ wx.heap[r]? = some (.cells (if δ 6 then F else X) 53 (0, 0))) (fun _ wx w' => Save (· ≠ r) wx w') (hsT r (.func (.func 245) #[] #[.pointer (some ⟨bf, 0, none⟩)]) M (M ++ sumB I) (.slice (some ⟨t6, 0, none⟩) 32 32) F) (by kernel_rfl) (by kernel_rfl) ?_ ?_ ?_ ?_
  · intro w' hb hh
    exact ⟨Save.of hb, by rw [hh]; exact HX5.out⟩
  · intro δ i j o v w1 w2 _ _ _ _ _ _ hG h
    rcases hd : o.dst with _ | d
    · exact tyP_none hd _ _
    · rw [tyP_some hd] at h ⊢
      exact hsT_stay hG h
  · have hpure : ∀ {δ : Nat → Bool} {wx w' : World} {i : Nat}, (Save (· ≠ r) w5 wx ∧ wx.heap[r]? = some (.cells (if δ 6 then F else X) 53 (0, 0))) → Below wx.heap.size wx w' → i ≠ 6 → (Save (· ≠ r) w5 w' ∧ w'.heap[r]? = some (.cells (if (upd δ i) 6 then F else X) 53 (0, 0))) := by
      intro δ wx w' i h hb hi
      exact ⟨h.1.trans (Save.of hb), by rw [upd_other δ hi, hb.block _ (Array.getElem?_eq_some_iff.1 h.2).1]; exact h.2⟩
    refine opsAll_cons ?_ (opsAll_cons ?_ (opsAll_cons ?_ (opsAll_cons ?_ (opsAll_cons ?_ (opsAll_cons ?_ (opsAll_cons ?_ opsAll_nil))))))
    all_goals intro δ wa wx hk
    · exact ⟨wanted_free rfl, gp_move (.tmp 5) rfl ⟨Save.refl _ _, hpure hk.inv (Below.refl _ _) (by decide), hk.old 5 (by kernel_rfl)⟩⟩
    · have hrx : r < wx.heap.size := (Array.getElem?_eq_some_iff.1 hk.inv.2).1
      have hcx := (hk.inv.1.cell (World.block_lt_of_cell? _ _ HCF5.out.1) (show bf ≠ r by omega)).trans HCF5.out.1
      have hrow := HCF5.out.2.save hk.inv.1 (fun g hg => by have := HNF.out g hg; omega)
      have hkk : Calls Tryz.prog 245 #[.int .u8 92, .pointer (some ⟨bf, 0, none⟩)] wx _ := mask1_calls wx bf 92 af (longK k) cf hcx hrow (by rw [longK_len]; decide)
      rw [longK_len] at hkk
      refine ⟨wanted_free rfl, gp_callv rfl (hk.slot 15 (by kernel_rfl)) #[.int .u8 92] #[.int .u8 92, .pointer (some ⟨bf, 0, none⟩)] rfl (fun w => by kernel_rfl) (by simp [hk.lit]) (hkk.mono ?_)⟩
      rintro e w' ⟨a', c', rfl, hO, hb⟩
      rw [← hM.out] at hO
      exact ⟨_, rfl, Save.of hb, hpure hk.inv hb (by decide), a', c', rfl, hO.isRow, fun g hg => by have := (hO.blk_ge hg).1; omega⟩
    · refine ⟨wanted_free rfl, gp_slice' rfl (hk.old 6 (by kernel_rfl)) rfl rfl rfl (tag_all t6 wx) ⟨Save.refl _ _, hpure hk.inv (Below.refl _ _) (by decide), rfl⟩⟩
    · obtain ⟨a1', c1', e1, r1, n1⟩ := hk.slot 16 (by kernel_rfl)
      have e2 : wa.eval (.tmp 17) = _ := hk.slot 17 (by kernel_rfl)
      have hrx : r < wx.heap.size := (Array.getElem?_eq_some_iff.1 hk.inv.2).1
      have hz : Below wx.heap.size wx (wx.alloc (.cells #[.slice a1' 64 c1', .slice (some ⟨t6, 0, none⟩) 32 32] 40)) := (Below.refl _ _).alloc (Nat.le_refl _) _
      refine ⟨wanted_free rfl, gp_run (v := .slice (some ⟨wx.heap.size, 0, none⟩) 2 2) (w' := wx.alloc (.cells #[.slice a1' 64 c1', .slice (some ⟨t6, 0, none⟩) 32 32] 40)) ?_ ⟨Save.of hz, hpure hk.inv hz (by decide), wx.heap.size, a1', c1', rfl, by omega, ?_, ?_, r1.stay hz, n1⟩⟩
      · exact run_vbuild rowsT [.tmp 16, .tmp 17] [.slice a1' 64 c1', .slice (some ⟨t6, 0, none⟩) 32 32] 2 rfl (by simp [e1, e2]) rfl (by decide) (by intro v hv; simp at hv; rcases hv with rfl | rfl <;> rfl) (by decide) wx
      · rw [World.cell?, heap_alloc_new, HML.out]; rfl
      · rw [World.cell?, heap_alloc_new]; rfl
    · obtain ⟨g, a1', c1', e1, hg, q1, q2, r1, n1⟩ := hk.slot 18 (by kernel_rfl)
      have hrx : r < wx.heap.size := (Array.getElem?_eq_some_iff.1 hk.inv.2).1
      have r2 := HS1.out.save hk.inv.1 (fun g hg => by simp [Go.Cit.blk] at hg; omega)
      have hs32 : (sumB I).length = 32 := sumB_len I
      have hct := cat_two wx g (l1 := M) (l2 := sumB I) (c2 := 32) q1 (by rw [hs32]; exact q2) r1 r2 (by rw [HML.out]; decide) (by rw [hs32]; decide)
      refine ⟨wanted_free rfl, gp_call rfl (hk.fn _) #[.slice (some ⟨g, 0, none⟩) 2 2] (fun w => by kernel_rfl) (by simp [e1]) (hct.mono ?_)⟩
      rintro e w' ⟨a', c', rfl, hm, hb⟩
      exact ⟨_, rfl, Save.of hb, hpure hk.inv hb (by decide), a', c', rfl, hm.row, fun g' hg' => by have := hm.new g' hg'; omega⟩
    · obtain ⟨a1', c1', e1, r1, n1⟩ := hk.slot 19 (by kernel_rfl)
      refine ⟨wanted_free rfl, gp_call rfl (hk.fn _) #[.slice a1' (M ++ sumB I).length c1'] (fun w => by kernel_rfl) (by simp [e1]) ((sum_calls wx a1' (M ++ sumB I) c1' r1 (by rw [List.length_append, HML.out, sumB_len]; decide)).mono ?_)⟩
      rintro e w' ⟨rfl, hb⟩
      exact ⟨_, rfl, Save.of hb, hpure hk.inv hb (by decide), by rw [HFE.out]; rfl⟩
    · obtain ⟨h1, h2⟩ := hk.inv
      rw [hk.yet] at h2
      refine ⟨wanted_free rfl, gp_storeB row_tag (.tmp 4) (.tmp 20) rfl (hk.old 4 (by kernel_rfl)) (hk.slot 20 (by kernel_rfl)) h2 HX.out HF.out HFo.out ?_⟩
      intro w' hb hs
      exact ⟨hs, ⟨h1.trans hs, by rw [upd_same]; exact hb⟩, tyP_none rfl _ _⟩
  intro δ wa wx hall hC hsame hT
  obtain ⟨hSv, hcE⟩ := hC
  rw [hall 6 (by decide), if_pos rfl] at hcE
  have he := act_same hsame [15, 16, 17, 18, 19, 20] (by kernel_rfl)
  obtain ⟨a16, c16, e16, _⟩ := hT 16 (by kernel_rfl)
  obtain ⟨g18, a18, c18, e18, _⟩ := hT 18 (by kernel_rfl)
  obtain ⟨a19, c19, e19, _⟩ := hT 19 (by kernel_rfl)
  simp only [List.foldl_cons, List.foldl_nil] at he
  rw [show wa.eval (.tmp 15) = _ from hT 15 (by kernel_rfl), e16, show wa.eval (.tmp 17) = _ from hT 17 (by kernel_rfl), e18, e19, show wa.eval (.tmp 20) = _ from hT 20 (by kernel_rfl)] at he
  simp only [Act.put, List.setIfInBounds_toArray, List.set_cons_zero, List.set_cons_succ] at he
  subst he
  clear hT hsame hall e16 e18 e19
  go_wp2_with fail
  refine bodyPost_ret (resB1 row_tag rfl rfl hcE HF.out) rfl ⟨by rw [hF.out], ?_⟩
  rw [← hr]
  exact B5.trans (hSv.below (by have := B5.size; omega) (fun j hj => by omega))
end Go.Proofs.YtlholdllibghbaaGreat

/- hmac.Derive and the reference's: walked. -/
namespace Go.Proofs.YtlholdllibghbaaGreat
open Go Go.RowKit Go.Cit

def deriveB (k s : List UInt8) (zs : List Int) : List UInt8 := hmacB k (formB s zs)

set_option maxRecDepth 100000 in
set_option maxHeartbeats 2000000 in
theorem derive_calls (w : World) (a : Option Addr) (k : List UInt8) (c : Nat) (h : Row w a k c) (hl : k.length ≤ 1000000) (s : List UInt8) (hs9 : s.length ≤ 1000) (a2 : Option Addr) (zs : List Int) (c2 : Nat) (h2 : Ints w a2 zs c2) (hz9 : zs.length ≤ 1000) :
    Calls Tryz.prog 165 #[.slice a k.length c, .string ⟨s.toArray⟩, .slice a2 zs.length c2] w fun e w' => ∃ g, e = .returned (.slice (some ⟨g, 0, none⟩) 32 32) ∧ w.heap.size ≤ g ∧ ArrB 53 w' g (deriveB k s zs) ∧ Below w.heap.size w w' := by
  have HA := Lib.hid (fun ρ d ty ps af w => salloc_tag ρ d ty ps (af := af) w)
  obtain ⟨X, hX⟩ : ∃ Y, Hid (Y = ((List.replicate 32 (0 : UInt8)).map vb).toArray) := ⟨_, rfl⟩
  rw [← hX.out] at HA
  have HX : Hid (X.size = 32) := by rw [Hid, hX.out]; simp
  have HP := Lib.hid (purpose_calls w s hs9 a2 zs c2 h2 hz9)
  have HK := Lib.hid h
  have hfl := partsB_len s zs
  have hf9 : (formB s zs).length ≤ 1000000 := by omega
  clear h h2 hfl
  obtain ⟨F, hF⟩ : ∃ F, Hid (F = formB s zs) := ⟨_, rfl⟩
  rw [← hF.out] at HP hf9
  go_enter Tryz.func165, Tryz.ntmps165
  go_wp2_with fail
  refine HP.out.mono ?_
  rintro e w1 ⟨a1, c1, rfl, hr1, hb1⟩
  have HB1 := Lib.hid hb1
  have HS := Lib.hid (hsum_calls w1 a k c (HK.out.stay hb1) hl a1 F c1 hr1 hf9)
  clear hr1 hb1 HP
  go_wp2_with fail
  refine HS.out.mono ?_
  rintro e w2 ⟨rfl, hb2⟩
  obtain ⟨D, hD⟩ : ∃ D, Hid (D = ((hmacB k F).map vb).toArray) := ⟨_, rfl⟩
  rw [← hD.out]
  have HD : Hid (D.size = 32) := by rw [Hid, hD.out]; simpa using hmacB_len k F
  have HDo : Hid (D.all (·.oneCell') = true) := by rw [Hid, hD.out]; exact arrB_ok _
  have HN2 : Hid ((w2.alloc (.cells X 53)).heap[w2.heap.size]? = some (.cells X 53 (0, 0))) := heap_alloc_new _ _
  have tA := tag_all w2.heap.size
  have HB2 := Lib.hid (HB1.out.trans (hb2.mono HB1.out.size))
  clear hb2 HS
  go_wp2_with (first
    | ((with_reducible refine wpList_value (o := ⟨some 7, .alloc _, _, _, _, _⟩) (by with_unfolding_all rfl) (HA.out _ _ _ _ _ _) ?_))
    | ((with_reducible refine wpList_storeB (o := ⟨none, .store _ (.tmp 7) (.tmp 12), _, _, _, _⟩) row_tag (.tmp 7) (.tmp 12) (by with_unfolding_all rfl) (by with_unfolding_all rfl) (by with_unfolding_all rfl) (by with_unfolding_all rfl) (by with_unfolding_all rfl) HN2.out HX.out HD.out HDo.out ?_); intro w3 hb3 hS3; have HB3 := Lib.hid hb3; have HS3 := Lib.hid hS3; clear hb3 hS3))
  have hs3 := HS3.out.size
  rw [World.size_alloc] at hs3
  have B3' : Below w2.heap.size w2 w3 := ((Below.refl _ w2).alloc (Nat.le_refl _) (.cells X 53)).trans (HS3.out.below (by simp) (fun j hj => by omega))
  have B3 := Lib.hid (HB2.out.trans (B3'.mono HB2.out.size))
  have HG := Lib.hid HB2.out.size
  clear B3' hs3
  go_ret
  refine ⟨w2.heap.size, rfl, HG.out, ?_, B3.out⟩
  have := HB3.out
  rw [hD.out, hF.out] at this
  exact this

end Go.Proofs.YtlholdllibghbaaGreat

/- manifest.head, Print, tag: walked. -/
namespace Go.Proofs.YtlholdllibghbaaGreat
open Go Go.RowKit Go.Cit

def headL (M : ManV) : List (List UInt8) := [int8 M.ver.1, M.prev, int8 M.trial.1, withB (printB M.cfg)]
def headB (M : ManV) : List UInt8 := (headL M).flatten
theorem canM_cfg {M : ManV} (h : canM M = true) : canV M.cfg = true := by
  unfold canM at h; rw [Bool.and_eq_true] at h; exact h.2
theorem head_len {M : ManV} (hp : M.prev.length = 32) (hc : canV M.cfg = true) : (headB M).length = 52 + (printB M.cfg).length ∧ (printB M.cfg).length ≤ 3782 := by
  have hcan := can_spec hc
  have hlw := win_flat M.cfg.ws
  have hlc := ch_flat M.cfg.cs
  have hlp := pt_flat M.cfg.ps hcan.2.2.2
  have h1 : (headB M).length = 52 + (printB M.cfg).length := by simp [headB, headL, int8_len, hp, withB_length]; omega
  refine ⟨h1, ?_⟩
  have h2 : (printB M.cfg).length = 24 + (M.cfg.ws.flatMap bWin).length + (M.cfg.ps.flatMap bPtV).length + (M.cfg.cs.flatMap bCh).length := by
    unfold printB; rw [if_pos hc]; unfold formV; simp [int8_len]; omega
  omega
def mhd (w0 : Nat) (M : ManV) (T : Array Value) (a3 : Option Addr) (F : List UInt8) (k3 : Nat) (f : Nat → Value) : Nat → Value
  | 12 => (.pointer (some ⟨w0, 0, none⟩))
  | 13 => (.int .i64 M.ver.1)
  | 15 => (.pointer (some ⟨w0, 1, none⟩))
  | 16 => (.agg T)
  | 18 => (.pointer (some ⟨w0, 33, none⟩))
  | 19 => (.int .i64 M.trial.1)
  | 21 => (.slice a3 F.length k3)
  | 2 => (f 4)
  | _ => undef
def mhdm : Nat → Nat
  | 2 => 5
  | _ => 0
def mhdo (w0 : Nat) (_ : ManV) (_ : Array Value) (a3 : Option Addr) (F : List UInt8) (k3 : Nat) : Nat → Value
  | 1 => (.pointer (some ⟨w0, 0, none⟩))
  | 3 => (.slice a3 F.length k3)
  | _ => undef
theorem mhd_on (w0 : Nat) (M : ManV) (T : Array Value) (a3 : Option Addr) (F : List UInt8) (k3 : Nat) : ∀ d (f g : Nat → Value), (∀ j, j < mhdm d → f j = g j) → mhd w0 M T a3 F k3 f d = mhd w0 M T a3 F k3 g d := by
  intro d f g h
  unfold mhd
  split
  · rfl
  · rfl
  · rfl
  · rfl
  · rfl
  · rfl
  · rfl
  · rw [h 4 (by decide)]
  · rfl

set_option maxRecDepth 100000 in
set_option maxHeartbeats 4000000 in
theorem head_calls (w : World) (M : ManV) (h : M.At w) (hcan : canM M = true) : Calls Tryz.prog 47 #[.agg (cM M)] w (Begun w (headB M)) := by
  obtain ⟨C, hC⟩ : ∃ C, Hid (C = cM M) := ⟨_, rfl⟩
  obtain ⟨w0, hw0⟩ : ∃ w0, w0 = w.alloc (.cells C 55) := ⟨_, rfl⟩
  have B0 : Below w.heap.size w w0 := by rw [hw0]; exact (Below.refl _ w).alloc (Nat.le_refl _) _
  have hI : InM w0 w.heap.size M := by rw [hw0, hC.out]; exact InM.new w h
  have d0 := hI.d0
  have d1 := hI.d1
  have d2 := hI.d2
  have HI0 := Lib.hid hI
  have HB0 := Lib.hid B0
  have HLN := Lib.hid (head_len h.p32 (canM_cfg hcan))
  obtain ⟨F, hF⟩ : ∃ F, Hid (F = printB M.cfg) := ⟨_, rfl⟩
  have hp := print_calls w0 M.cfg (h.cfg.stay B0) (small_can (canM_cfg hcan))
  rw [← hF.out] at hp
  have HP := Lib.hid hp
  obtain ⟨Y, hY⟩ : ∃ Y, Hid (Y = headB M) := ⟨_, rfl⟩
  rw [← hC.out, ← hY.out]
  have f3 := mf3 w.heap.size
  clear hp hI h B0 hcan
  go_enter Tryz.func47, Tryz.ntmps47
  go_upto_region 1 with fail
  rw [← hw0]
  clear hw0
  go_wp2_with fail
  refine (HP.out).mono ?_
  rintro e w1 ⟨a3, k3, rfl, hr3, hb1⟩
  have HB1 := Lib.hid (HB0.out.trans (hb1.mono HB0.out.size))
  have hI := Lib.hid (HI0.out.keep hb1)
  have C0 := hI.out.ver
  have C2 := hI.out.trial
  obtain ⟨T, hT⟩ : ∃ T, Hid (T = (M.prev.map vb).toArray) := ⟨_, rfl⟩
  have C1 : ∀ q : After w1, (Instr.loadAt 53 (.pointer (some ⟨w.heap.size, 1, none⟩))).run Tryz.prog q.to = .ok (.agg T) q.to := fun q => by rw [hT.out]; exact (hI.out.keep q.bel).prev
  obtain ⟨fs, hfs⟩ : ∃ fs, fs = [int8 M.ver.1, M.prev, int8 M.trial.1, withB F] := ⟨_, rfl⟩
  have HRM : Hid (([] : List UInt8).length + [int8 M.ver.1, M.prev, int8 M.trial.1, withB F].flatten.length ≤ 65536) := by
    have h1 := HLN.out
    have h2 : (headB M).length = [int8 M.ver.1, M.prev, int8 M.trial.1, withB F].flatten.length := by rw [hF.out]; rfl
    rw [Hid, ← h2, List.length_nil]; omega
  clear d0 d1 d2 HI0 HP hb1 f3
  go_upto_region 2 with fail
  subst hfs
  refine wp_region_lineX (mhd w.heap.size M T a3 F k3) mhdm (mhdo w.heap.size M T a3 F k3) [1, 3] [0, 3, 6, 9, 11] (WrSt w1 [] [int8 M.ver.1, M.prev, int8 M.trial.1, withB F]) (by kernel_rfl) (by kernel_rfl) (by kernel_rfl) (by kernel_rfl) ⟨rfl, rfl, trivial⟩ (mhd_on w.heap.size M T a3 F k3) (WrSt.start _ _ _) ?_ ?_
  · refine opsAll_cons ?_ (opsAll_cons ?_ (opsAll_cons ?_ (opsAll_cons ?_ (opsAll_cons ?_ (opsAll_cons ?_ (opsAll_cons ?_ (opsAll_cons ?_ (opsAll_cons ?_ (opsAll_cons ?_ (opsAll_cons ?_ (opsAll_cons ?_ (opsAll_cons ?_ opsAll_nil))))))))))))
    all_goals intro av vs hk
    · refine ⟨wanted_free rfl, .inl ⟨0, rfl, fun hvs wx hst => ?_⟩⟩
      refine gp_call rfl (hk.fn _) #[] (fun w => by kernel_rfl) (by rw [List.map_toArray]; rfl) (hst.begins hvs (new_begun _))
    · exact ⟨wanted_free rfl, .inr ⟨by decide, fun s1 s2 hle wx hst => gp_field (.tmp 1) rfl (show av.eval (.tmp 1) = (.pointer (some ⟨w.heap.size, 0, none⟩)) from hk.old 1 (by kernel_rfl)) (v := (.pointer (some ⟨w.heap.size, 0, none⟩))) (fun w => by kernel_rfl) ⟨hst, rfl⟩⟩⟩
    · exact ⟨wanted_free rfl, .inr ⟨by decide, fun s1 s2 hle wx hst => gp_load (.tmp 12) rfl (show av.eval (.tmp 12) = (.pointer (some ⟨w.heap.size, 0, none⟩)) from hk.slot 12 (by kernel_rfl) (by kernel_rfl)) (v := (.int .i64 M.ver.1)) ((fun (q : After _) => load_at (fun w => by kernel_rfl) (keep q.bel C0)) ⟨wx, hst.bel⟩) ⟨hst, rfl⟩⟩⟩
    · refine ⟨wanted_free rfl, .inl ⟨1, rfl, fun hvs wx hst => ?_⟩⟩
      refine gp_call rfl (hk.fn _) #[atL vs 0, .int .i64 M.ver.1] (fun w => by kernel_rfl) (by simp only [List.map_toArray, List.map_cons, List.map_nil, (show av.eval (.tmp 11) = atL vs 0 from (hk.line 0 11 (by kernel_rfl) (by kernel_rfl)).2), (show av.eval (.tmp 13) = (.int .i64 M.ver.1) from hk.slot 13 (by kernel_rfl) (by kernel_rfl))]) (hst.step (k := 0) hvs (m := int8 M.ver.1) rfl HRM.out (fun v => #[v, .int .i64 M.ver.1]) (fun b a X c hw hb9 hr => wint_calls hw hb9 _ (by have := int8_len M.ver.1; omega)))
    · exact ⟨wanted_free rfl, .inr ⟨by decide, fun s1 s2 hle wx hst => gp_field (.tmp 1) rfl (show av.eval (.tmp 1) = (.pointer (some ⟨w.heap.size, 0, none⟩)) from hk.old 1 (by kernel_rfl)) (v := (.pointer (some ⟨w.heap.size, 1, none⟩))) (fun w => by kernel_rfl) ⟨hst, rfl⟩⟩⟩
    · exact ⟨wanted_free rfl, .inr ⟨by decide, fun s1 s2 hle wx hst => gp_load (.tmp 15) rfl (show av.eval (.tmp 15) = (.pointer (some ⟨w.heap.size, 1, none⟩)) from hk.slot 15 (by kernel_rfl) (by kernel_rfl)) (v := (.agg T)) ((fun (q : After _) => C1 q) ⟨wx, hst.bel⟩) ⟨hst, rfl⟩⟩⟩
    · refine ⟨wanted_free rfl, .inl ⟨2, rfl, fun hvs wx hst => ?_⟩⟩
      refine gp_call rfl (hk.fn _) #[atL vs 1, .agg T] (fun w => by kernel_rfl) (by simp only [List.map_toArray, List.map_cons, List.map_nil, (show av.eval (.tmp 14) = atL vs 1 from (hk.line 1 14 (by kernel_rfl) (by kernel_rfl)).2), (show av.eval (.tmp 16) = (.agg T) from hk.slot 16 (by kernel_rfl) (by kernel_rfl))]) (hst.step (k := 1) hvs (m := M.prev) rfl HRM.out (fun v => #[v, .agg T]) (fun b a X c hw hb9 hr => by rw [hT.out]; exact wtag_calls hw hb9 _ hI.out.p32 (by have := hI.out.p32; omega)))
    · exact ⟨wanted_free rfl, .inr ⟨by decide, fun s1 s2 hle wx hst => gp_field (.tmp 1) rfl (show av.eval (.tmp 1) = (.pointer (some ⟨w.heap.size, 0, none⟩)) from hk.old 1 (by kernel_rfl)) (v := (.pointer (some ⟨w.heap.size, 33, none⟩))) (fun w => by kernel_rfl) ⟨hst, rfl⟩⟩⟩
    · exact ⟨wanted_free rfl, .inr ⟨by decide, fun s1 s2 hle wx hst => gp_load (.tmp 18) rfl (show av.eval (.tmp 18) = (.pointer (some ⟨w.heap.size, 33, none⟩)) from hk.slot 18 (by kernel_rfl) (by kernel_rfl)) (v := (.int .i64 M.trial.1)) ((fun (q : After _) => load_at (fun w => by kernel_rfl) (keep q.bel C2)) ⟨wx, hst.bel⟩) ⟨hst, rfl⟩⟩⟩
    · refine ⟨wanted_free rfl, .inl ⟨3, rfl, fun hvs wx hst => ?_⟩⟩
      refine gp_call rfl (hk.fn _) #[atL vs 2, .int .i64 M.trial.1] (fun w => by kernel_rfl) (by simp only [List.map_toArray, List.map_cons, List.map_nil, (show av.eval (.tmp 17) = atL vs 2 from (hk.line 2 17 (by kernel_rfl) (by kernel_rfl)).2), (show av.eval (.tmp 19) = (.int .i64 M.trial.1) from hk.slot 19 (by kernel_rfl) (by kernel_rfl))]) (hst.step (k := 2) hvs (m := int8 M.trial.1) rfl HRM.out (fun v => #[v, .int .i64 M.trial.1]) (fun b a X c hw hb9 hr => wint_calls hw hb9 _ (by have := int8_len M.trial.1; omega)))
    · exact ⟨wanted_free rfl, .inr ⟨by decide, fun s1 s2 hle wx hst => gp_move (.tmp 3) rfl ⟨hst, (show av.eval (.tmp 3) = (.slice a3 F.length k3) from hk.old 3 (by kernel_rfl))⟩⟩⟩
    · refine ⟨wanted_free rfl, .inl ⟨4, rfl, fun hvs wx hst => ?_⟩⟩
      refine gp_call rfl (hk.fn _) #[atL vs 3, .slice a3 F.length k3] (fun w => by kernel_rfl) (by simp only [List.map_toArray, List.map_cons, List.map_nil, (show av.eval (.tmp 20) = atL vs 3 from (hk.line 3 20 (by kernel_rfl) (by kernel_rfl)).2), (show av.eval (.tmp 21) = (.slice a3 F.length k3) from hk.slot 21 (by kernel_rfl) (by kernel_rfl))]) (hst.step (k := 3) hvs (m := withB F) rfl HRM.out (fun v => #[v, .slice a3 F.length k3]) (fun b a X c hw hb9 hr => wbytes_calls hw hb9 (hr3.stay hst.bel).row (by have := withB_length F; omega)))
    · exact ⟨wanted_free rfl, .inr ⟨by decide, fun s1 s2 hle wx hst => gp_assign (.tmp 22) rfl ⟨hst, (show av.eval (.tmp 22) = atL vs 4 from (hk.line 4 22 (by kernel_rfl) (by kernel_rfl)).2)⟩⟩⟩
  intro av vs w2 hlen9 hfin hsame hall hline
  have he := act_same hsame [11, 12, 13, 14, 15, 16, 17, 18, 19, 20, 21, 22, 2] (by kernel_rfl)
  simp only [List.foldl_cons, List.foldl_nil] at he
  rw [show av.eval (.tmp 2) = (atL vs 4) from hall 2 (by kernel_rfl) (by kernel_rfl)] at he
  generalize av.eval (.tmp 11) = y11 at he
  generalize av.eval (.tmp 12) = y12 at he
  generalize av.eval (.tmp 13) = y13 at he
  generalize av.eval (.tmp 14) = y14 at he
  generalize av.eval (.tmp 15) = y15 at he
  generalize av.eval (.tmp 16) = y16 at he
  generalize av.eval (.tmp 17) = y17 at he
  generalize av.eval (.tmp 18) = y18 at he
  generalize av.eval (.tmp 19) = y19 at he
  generalize av.eval (.tmp 20) = y20 at he
  generalize av.eval (.tmp 21) = y21 at he
  generalize av.eval (.tmp 22) = y22 at he
  simp only [put_lit] at he
  dsimp only [List.set_cons_zero, List.set_cons_succ] at he
  subst he
  clear hsame hall hline
  obtain ⟨b, a, X, c, hv, hX, hW, hb2⟩ := hfin.ended (by rw [hlen9]; rfl)
  have hv' : atL vs 4 = .pointer (some ⟨b, 0, none⟩) := hv
  rw [hv']
  go_wp2_with fail
  go_ret
  exact ⟨b, a, X, c, by rw [Hid, hX.out, hY.out, headB, headL, ← hF.out]; rfl, rfl, hW.low HB1.out.size, HB1.out.trans (hb2.mono HB1.out.size)⟩
end Go.Proofs.YtlholdllibghbaaGreat

