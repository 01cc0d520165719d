/- manifest.Check: walked. -/
import Derived.Test.YtlholdllibghbaaGreatG33
import Derived.Test.YtlholdllibghbaaGreatG28
namespace Go.Proofs.YtlholdllibghbaaGreat
open Go Go.RowKit Go.Cit

def firstE : List Int → Int
  | [] => 0
  | e :: r => if e ≠ 0 then e else firstE r
def asksE (key : List UInt8) (R m : Man) : Int :=
  firstE [if rightK key m then 0 else 141, if m.prev = mhashK R then 0 else 142, if R.ver.1 < m.ver.1 then 0 else 143, chkC m.cfg, if compC R.cfg m.cfg = 0 then 0 else 130]
def checkE (key : List UInt8) (R : Man) (l : List UInt8) : Int := if mparE l ≠ 0 then mparE l else asksE key R (mparK l)
def checkM (key : List UInt8) (R : Man) (l : List UInt8) : Man := if checkE key R l = 0 then mparK l else manZ
theorem ixF0 (b : Nat) (w : World) : (Instr.indexAt 119 (.slice (some ⟨b, 0, none⟩) 5 5) (.int .i64 0)).run Tryz.prog w = .ok (.pointer (some ⟨b, 0, none⟩)) w := by kernel_rfl
theorem ixF1 (b : Nat) (w : World) : (Instr.indexAt 119 (.slice (some ⟨b, 0, none⟩) 5 5) (.int .i64 1)).run Tryz.prog w = .ok (.pointer (some ⟨b, 1, none⟩)) w := by kernel_rfl
theorem ixF2 (b : Nat) (w : World) : (Instr.indexAt 119 (.slice (some ⟨b, 0, none⟩) 5 5) (.int .i64 2)).run Tryz.prog w = .ok (.pointer (some ⟨b, 2, none⟩)) w := by kernel_rfl
theorem ixF3 (b : Nat) (w : World) : (Instr.indexAt 119 (.slice (some ⟨b, 0, none⟩) 5 5) (.int .i64 3)).run Tryz.prog w = .ok (.pointer (some ⟨b, 3, none⟩)) w := by kernel_rfl
theorem ixF4 (b : Nat) (w : World) : (Instr.indexAt 119 (.slice (some ⟨b, 0, none⟩) 5 5) (.int .i64 4)).run Tryz.prog w = .ok (.pointer (some ⟨b, 4, none⟩)) w := by kernel_rfl
def mck (g p : Nat) (C CS T1 T2 : Array Value) (a : Option Addr) (n c : Nat) (M S : ManV) (r1 r2 r3 r5 : Bool) (cE : Int) : Nat → Value → World → Prop
  | 24 => fun v _ => v = (.func (.func 73) #[] #[])
  | 25 => fun v _ => v = (.slice a n c)
  | 26 => fun v _ => v = (.agg CS)
  | 27 => fun v _ => v = (.bool r1)
  | 28 => tF r1 141
  | 29 => fun v _ => v = (.func (.func 73) #[] #[])
  | 30 => fun v _ => v = (.pointer (some ⟨p, 1, none⟩))
  | 31 => fun v _ => v = (.agg T1)
  | 32 => fun v _ => v = (.agg C)
  | 33 => fun v _ => v = (.agg T2)
  | 34 => fun v _ => v = (.bool r2)
  | 35 => tF r2 142
  | 36 => fun v _ => v = (.func (.func 73) #[] #[])
  | 37 => fun v _ => v = (.pointer (some ⟨p, 0, none⟩))
  | 38 => fun v _ => v = (.int .i64 S.ver.1)
  | 39 => fun v _ => v = (.pointer (some ⟨g, 0, none⟩))
  | 40 => fun v _ => v = (.int .i64 M.ver.1)
  | 41 => fun v _ => v = (.bool r3)
  | 42 => tF r3 143
  | 43 => fun v _ => v = (.func (.func 75) #[] #[.pointer (some ⟨p, 0, none⟩)])
  | 44 => fun v _ => v = (.func (.func 73) #[] #[])
  | 45 => fun v _ => v = (.pointer (some ⟨g, 34, none⟩))
  | 46 => fun v _ => v = (.agg #[.slice M.cfg.wa M.cfg.ws.length M.cfg.wc, .slice M.cfg.pa M.cfg.ps.length M.cfg.pc, .slice M.cfg.ca M.cfg.cs.length M.cfg.cc])
  | 47 => fun v _ => v = (.pointer (some ⟨p, 34, none⟩))
  | 48 => fun v _ => v = (.agg #[.slice S.cfg.wa S.cfg.ws.length S.cfg.wc, .slice S.cfg.pa S.cfg.ps.length S.cfg.pc, .slice S.cfg.ca S.cfg.cs.length S.cfg.cc])
  | 49 => fun v _ => v = (.int .i64 cE)
  | 50 => fun v _ => v = (.bool r5)
  | 51 => tF r5 130
  | _ => fun _ _ => True
theorem mck_stay (g p : Nat) (C CS T1 T2 : Array Value) (a : Option Addr) (n c : Nat) (M S : ManV) (r1 r2 r3 r5 : Bool) (cE : Int) : ∀ d v w1 w2, Below w1.heap.size w1 w2 → mck g p C CS T1 T2 a n c M S r1 r2 r3 r5 cE d v w1 → mck g p C CS T1 T2 a n c M S r1 r2 r3 r5 cE d v w2 := by
  intro d v w1 w2 hb h
  unfold mck at h ⊢
  split at h <;> first | exact h | exact tF_stay hb h | trivial
set_option maxRecDepth 100000 in
set_option maxHeartbeats 8000000 in
theorem mcheck_calls (w : World) (a : Option Addr) (key : List UInt8) (c : Nat) (hk : Row w a key c) (hkl : key.length ≤ 100000) (M : ManV) (h : M.At w) (hs : SmallV M.cfg) (ab : Option Addr) (l : List UInt8) (cb : Nat) (hb : Row w ab l cb) : Calls Tryz.prog 26 #[.slice a key.length c, .agg (cM M), .slice ab l.length cb] w fun e w' => ∃ U : ManV, e = .returned (.tuple #[.agg (cM U), .int .i64 (checkE key M.man l)]) ∧ U.man = checkM key M.man l ∧ FreshM w.heap.size w' U ∧ Below w.heap.size w w' := by
  have HAM := Lib.hid (fun ρ d ty ps af w => alloc_man ρ d ty ps (af := af) w)
  have HBM := Lib.hid (fun ρ d ty ps af w => build_man ρ d ty ps (af := af) w)
  obtain ⟨Z, hZ⟩ : ∃ Z, Hid (Z = cM zM) := ⟨_, rfl⟩
  rw [← hZ.out] at HAM HBM
  have HZS : Hid (Z.size = 69 ∧ Z.all (·.oneCell') = true) := by rw [hZ.out]; exact ⟨cM_size rfl rfl, cM_one _⟩
  obtain ⟨C, hC⟩ : ∃ C, Hid (C = cM M) := ⟨_, rfl⟩
  obtain ⟨w0, hw0⟩ : ∃ w0, w0 = (w.alloc (.cells C 55)).alloc (.cells Z 55) := ⟨_, rfl⟩
  have B1 : Below (w.alloc (.cells C 55)).heap.size (w.alloc (.cells C 55)) w0 := by rw [hw0]; exact (Below.refl _ _).alloc (Nat.le_refl _) _
  have B0 : Below w.heap.size w w0 := ((Below.refl _ w).alloc (Nat.le_refl _) _).trans (B1.mono (by simp))
  have hI : InM w0 w.heap.size M := by rw [hC.out] at B1; exact (InM.new w h).keep B1
  obtain ⟨g, hg⟩ : ∃ g, g = w.heap.size + 1 := ⟨_, rfl⟩
  have hgb : w0.heap[g]? = some (.cells Z 55 (0, 0)) := by
    rw [hw0, hg]; have := heap_alloc_new (w.alloc (.cells C 55)) (.cells Z 55); simpa using this
  have HGW : Hid (g = w.heap.size + 1) := hg
  have HGS : Hid (w0.heap.size = w.heap.size + 2) := by rw [Hid, hw0]; simp
  have HG := Lib.hid hgb
  have HI0 := Lib.hid hI
  have HB0 := Lib.hid B0
  have HK := Lib.hid hk
  have HMV := Lib.hid h
  obtain ⟨E, hE⟩ : ∃ E, Hid (E = mparE l) := ⟨_, rfl⟩
  have hp := mparse_calls w0 (hb.stay B0)
  rw [← hE.out] at hp
  have HP := Lib.hid hp
  obtain ⟨QE, hQE⟩ : ∃ x, Hid (x = checkE key M.man l) := ⟨_, rfl⟩
  obtain ⟨QM, hQM⟩ : ∃ x, Hid (x = checkM key M.man l) := ⟨_, rfl⟩
  obtain ⟨n, hn⟩ : ∃ n, Hid (n = key.length) := ⟨_, rfl⟩
  rw [← hC.out, ← hn.out, ← hQE.out, ← hQM.out]
  clear hgb hI h B0 B1 hk hp hb
  go_enter Tryz.func26, Tryz.ntmps26
  go_upto_region 1 with ((with_reducible refine wpList_value (o := ⟨some 6, .alloc _, _, _, _, _⟩) (by with_unfolding_all rfl) (HAM.out _ _ _ _ _ _) ?_))
  rw [← hw0, ← hg]
  clear hw0 hg
  go_wp2_with fail
  refine (HP.out).mono ?_
  rintro e w1 ⟨S, rfl, hSm, hSF, hb1⟩
  have HB1 := Lib.hid (HB0.out.trans (hb1.mono HB0.out.size))
  have HI1 := Lib.hid (HI0.out.keep hb1)
  have HG1 := Lib.hid (blk_stay HG.out hb1)
  have HSM := Lib.hid hSm
  have HSF := Lib.hid hSF
  have HS0 : Hid (w0.heap.size ≤ w1.heap.size) := hb1.size
  obtain ⟨CS, hCS⟩ : ∃ C, Hid (C = cM S) := ⟨_, rfl⟩
  have HCS : Hid (CS.size = 69 ∧ CS.all (·.oneCell') = true) := by rw [hCS.out]; exact ⟨cM_size HSF.out.p32 HSF.out.t32, cM_one _⟩
  rw [← hCS.out]
  obtain ⟨p, hp⟩ : ∃ p, p = w1.heap.size := ⟨_, rfl⟩
  have HNW := Lib.hid (heap_alloc_new w1 (.cells Z 55))
  clear hb1 HP HI0 HG hSm hSF HB0
  go_upto_region 2 with (first | ((with_reducible refine wpList_value (o := ⟨some 8, .alloc _, _, _, _, _⟩) (by with_unfolding_all rfl) (HAM.out _ _ _ _ _ _) ?_)) | ((with_reducible refine wpList_storeB (o := ⟨none, .store _ (.tmp 8) (.tmp 18), _, _, _, _⟩) rowM (.tmp 8) (.tmp 18) (by with_unfolding_all rfl) (by with_unfolding_all rfl) (by with_unfolding_all rfl) (by with_unfolding_all rfl) (by with_unfolding_all rfl) HNW.out HZS.out.1 HCS.out.1 HCS.out.2 ?_); intro w3 hbw3 hSw3; have HBw3 := Lib.hid hbw3; have HSw3 := Lib.hid hSw3; clear hbw3 hSw3))
  have HS3 : Hid (Below w1.heap.size w1 w3) := by
    have h1 : Below w1.heap.size w1 (w1.alloc (.cells Z 55)) := (Below.refl _ _).alloc (Nat.le_refl _) _
    exact h1.trans (HSw3.out.below (by simp) (fun k hk => by omega))
  have HIM := Lib.hid (HI1.out.keep HS3.out)
  have HIS : Hid (InM w3 p S) := by rw [Hid, hp]; exact ⟨by rw [← hCS.out]; exact HBw3.out, HSF.out.p32, HSF.out.t32⟩
  have HG3 := Lib.hid (blk_stay HG1.out HS3.out)
  have HB3 := Lib.hid (HB1.out.trans (HS3.out.mono HB1.out.size))
  have HF3 : Hid (FreshM w0.heap.size w3 S) := ⟨HSF.out.p32, HSF.out.t32, HSF.out.cfg.stay HS3.out⟩
  have HPW : Hid (w0.heap.size ≤ p) := by rw [Hid, hp]; exact HS0.out
  rw [← hp]
  clear HBw3 HSw3 HNW HS3 HI1 HG1 HB1 HSF HS0 hp
  obtain ⟨ok, hok⟩ : ∃ ok, Hid (ok = mparOk l) := ⟨_, rfl⟩
  cases ok with
  | false =>
    have e1 : E = 140 := by rw [hE.out, mparE, ← hok.out]; rfl
    subst e1
    go_wp2_with (first | ((with_reducible refine wpList_value (o := ⟨some 22, .build _ _, _, _, _, _⟩) (by with_unfolding_all rfl) (HBM.out _ _ _ _ _ _) ?_)) | ((with_reducible refine wpList_storeB (o := ⟨none, .store _ (.tmp 6) (.tmp 22), _, _, _, _⟩) rowM (.tmp 6) (.tmp 22) (by with_unfolding_all rfl) (by with_unfolding_all rfl) (by with_unfolding_all rfl) (by with_unfolding_all rfl) (by with_unfolding_all rfl) HG3.out HZS.out.1 HZS.out.1 HZS.out.2 ?_); intro w4 hbw4 hSw4; have HBw4 := Lib.hid hbw4; have HSw4 := Lib.hid hSw4; clear hbw4 hSw4))
    refine bodyPost_ret (resB2 rowM rfl rfl HBw4.out HZS.out.1) rfl ⟨zM, ?_, ?_, freshM_z _ _, ?_⟩
    · rw [hQE.out, checkE, ← hE.out, hZ.out]; rfl
    · rw [hQM.out, checkM, checkE, ← hE.out]; rfl
    · exact HB3.out.trans (HSw4.out.below HB3.out.size (fun k hk => by have := HGW.out; omega))
  | true =>
    have e1 : E = 0 := by rw [hE.out, mparE, ← hok.out]; rfl
    subst e1
    have HKK : Hid (mparK l = readM l) := by rw [Hid, mparK, ← hok.out]; rfl
    have hcs : canM S = true := by
      rw [canM_man, HSM.out, HKK.out]
      have := hok.out.symm
      unfold mparOk at this
      simp only [Bool.and_eq_true] at this
      exact this.2
    have HSS : Hid (SmallV S.cfg) := small_can (canM_cfg hcs)
    have HAS : Hid (S.At w3) := HF3.out.at
    have HAM3 := Lib.hid (HMV.out.stay HB3.out)
    have HK3 := Lib.hid (HK.out.stay HB3.out)
    obtain ⟨r1, h1⟩ : ∃ r, Hid (r = rightK key S.man) := ⟨_, rfl⟩
    obtain ⟨r2, h2⟩ : ∃ r, Hid (r = decide (S.prev = mhashB M)) := ⟨_, rfl⟩
    obtain ⟨r3, h3⟩ : ∃ r, Hid (r = decide (M.ver.1 < S.ver.1)) := ⟨_, rfl⟩
    obtain ⟨cE, hcE⟩ : ∃ r, Hid (r = compC M.cfg.cfg S.cfg.cfg) := ⟨_, rfl⟩
    obtain ⟨r5, h5⟩ : ∃ r, Hid (r = decide (cE = 0)) := ⟨_, rfl⟩
    obtain ⟨vE, hvE⟩ : ∃ r, Hid (r = chkC S.cfg.cfg) := ⟨_, rfl⟩
    have HQ : Hid (QE = firstE [if r1 then 0 else 141, if r2 then 0 else 142, if r3 then 0 else 143, vE, if r5 then 0 else 130]) := by
      rw [Hid, hQE.out, checkE, ← hE.out, if_neg (by decide), asksE, ← HSM.out, h1.out, h2.out, h3.out, hvE.out, h5.out, hcE.out, mhashB_man]
      simp only [decide_eq_true_eq]; rfl
    obtain ⟨T1, hT1⟩ : ∃ T, Hid (T = (S.prev.map vb).toArray) := ⟨_, rfl⟩
    obtain ⟨T2, hT2⟩ : ∃ T, Hid (T = ((mhashB M).map vb).toArray) := ⟨_, rfl⟩
    have HR1 : Hid (∀ q : After w3, Calls Tryz.prog 29 #[.slice a n c, .agg CS] q.to fun e w' => e = .returned (.bool r1) ∧ Below q.to.heap.size q.to w') := fun q => by rw [hCS.out, h1.out, hn.out]; exact mright_calls q.to a key c (HK3.out.stay q.bel) hkl S (HAS.out.stay q.bel)
    have HH2 : Hid (∀ q : After w3, Calls Tryz.prog 18 #[.agg C] q.to fun e w' => e = .returned (.agg T2) ∧ Below q.to.heap.size q.to w') := fun q => by rw [hC.out, hT2.out]; exact mhash_calls q.to M (HAM3.out.stay q.bel)
    have HC5 : Hid (∀ q : After w3, Calls Tryz.prog 76 #[.agg #[.slice M.cfg.wa M.cfg.ws.length M.cfg.wc, .slice M.cfg.pa M.cfg.ps.length M.cfg.pc, .slice M.cfg.ca M.cfg.cs.length M.cfg.cc], .agg #[.slice S.cfg.wa S.cfg.ws.length S.cfg.wc, .slice S.cfg.pa S.cfg.ps.length S.cfg.pc, .slice S.cfg.ca S.cfg.cs.length S.cfg.cc]] q.to fun e w' => e = .returned (.int .i64 cE) ∧ Below q.to.heap.size q.to w') := fun q => by
      have := ccheck_calls q.to M.cfg S.cfg (HAM3.out.cfg.stay q.bel) (HAS.out.cfg.stay q.bel) hs HSS.out
      rw [check_is, rcheck_cfg, ← hcE.out] at this
      exact this
    have C5 : ∀ q : After w3, (Instr.loadAt 55 (.pointer (some ⟨p, 0, none⟩))).run Tryz.prog q.to = .ok (.agg CS) q.to := fun q => by rw [hCS.out]; exact (HIS.out.keep q.bel).whole
    have C6 : ∀ q : After w3, (Instr.loadAt 53 (.pointer (some ⟨p, 1, none⟩))).run Tryz.prog q.to = .ok (.agg T1) q.to := fun q => by rw [hT1.out]; exact (HIS.out.keep q.bel).prev
    have C7 : ∀ q : After w3, (Instr.loadAt 55 (.pointer (some ⟨w.heap.size, 0, none⟩))).run Tryz.prog q.to = .ok (.agg C) q.to := fun q => by rw [hC.out]; exact (HIM.out.keep q.bel).whole
    have HX2 : Hid (∀ w : World, (do eqGuard .eql 53 (.tmp 31) (.tmp 33) (.agg T1) (.agg T2); binOp .eql 53 (.agg T1) (.agg T2) : Sem Value).run Tryz.prog w = .ok (.bool r2) w) := fun w => by
      rw [hT1.out, hT2.out, h2.out]; exact run_eql_op tagI.guard _ _ (run_eq_bytes tagI _ _ HIS.out.p32 (mhashB_len _)) w
    have HX3 : Hid (∀ w : World, (do eqGuard .gtr 3 (.tmp 38) (.tmp 40) (.int .i64 S.ver.1) (.int .i64 M.ver.1); binOp .gtr 3 (.int .i64 S.ver.1) (.int .i64 M.ver.1) : Sem Value).run Tryz.prog w = .ok (.bool r3) w) := fun w => by
      rw [h3.out]; kernel_rfl
    have HX5 : Hid (∀ w : World, (do eqGuard .eql 33 (.tmp 49) (.const (.int .i64 0)) (.int .i64 cE) (.int .i64 0); binOp .eql 33 (.int .i64 cE) (.int .i64 0) : Sem Value).run Tryz.prog w = .ok (.bool r5) w) := fun w => by
      rw [h5.out]; kernel_rfl
    go_upto_region 5 with fail
    refine wp_region_tail 28 (mck w.heap.size p C CS T1 T2 a n c M S r1 r2 r3 r5 cE) (by kernel_rfl) (by kernel_rfl) (by kernel_rfl) (by kernel_rfl) (mck_stay w.heap.size p C CS T1 T2 a n c M S r1 r2 r3 r5 cE) ?_ ?_
    · simp only [List.take_succ_cons, List.take_zero]
      refine opsAll_cons ?_ (opsAll_cons ?_ (opsAll_cons ?_ (opsAll_cons ?_ (opsAll_cons ?_ (opsAll_cons ?_ (opsAll_cons ?_ (opsAll_cons ?_ (opsAll_cons ?_ (opsAll_cons ?_ (opsAll_cons ?_ (opsAll_cons ?_ (opsAll_cons ?_ (opsAll_cons ?_ (opsAll_cons ?_ (opsAll_cons ?_ (opsAll_cons ?_ (opsAll_cons ?_ (opsAll_cons ?_ (opsAll_cons ?_ (opsAll_cons ?_ (opsAll_cons ?_ (opsAll_cons ?_ (opsAll_cons ?_ (opsAll_cons ?_ (opsAll_cons ?_ (opsAll_cons ?_ (opsAll_cons ?_ opsAll_nil)))))))))))))))))))))))))))
      all_goals intro av wx hk
      · exact .inl ⟨wanted_free rfl, gp_move (.tmp 10) rfl ⟨Below.refl _ _, (hk.old 10 (by kernel_rfl)).trans rfl⟩⟩
      · exact .inl ⟨wanted_free rfl, gp_move (.tmp 0) rfl ⟨Below.refl _ _, (hk.old 0 (by kernel_rfl)).trans rfl⟩⟩
      · exact .inl ⟨wanted_free rfl, gp_load (.tmp 8) rfl (show av.eval (.tmp 8) = (.pointer (some ⟨p, 0, none⟩)) from ((hk.old 8 (by kernel_rfl)).trans rfl)) (C5 ⟨wx, hk.below⟩) ⟨Below.refl _ _, rfl⟩⟩
      · exact .inl ⟨wanted_free rfl, gp_call rfl (hk.fn _) #[.slice a n c, .agg CS] (fun w => by kernel_rfl) (by simp only [List.map_toArray, List.map_cons, List.map_nil, (show av.eval (.tmp 25) = (.slice a n c) from hk.slot 25 (by kernel_rfl)), (show av.eval (.tmp 26) = (.agg CS) from hk.slot 26 (by kernel_rfl))]) ((HR1.out ⟨wx, hk.below⟩).mono fun e w' ⟨he, hb⟩ => ⟨_, he, hb, rfl⟩)⟩
      · exact .inl ⟨wanted_free rfl, gp_callv (cap := #[]) rfl (show av.eval (.tmp 24) = _ from hk.slot 24 (by kernel_rfl)) #[.bool r1, .int .i64 141] #[.bool r1, .int .i64 141] rfl (fun w => by kernel_rfl) (by simp only [List.map_toArray, List.map_cons, List.map_nil, show ∀ v, av.eval (.const v) = v from hk.lit, show av.eval (.tmp 27) = .bool r1 from hk.slot 27 (by kernel_rfl)]) ((unless_calls wx r1 141).mono fun e w' ⟨v, he, hb, hv⟩ => ⟨v, he, hb, hv⟩)⟩
      · exact .inl ⟨wanted_free rfl, gp_move (.tmp 10) rfl ⟨Below.refl _ _, (hk.old 10 (by kernel_rfl)).trans rfl⟩⟩
      · exact .inl ⟨wanted_free rfl, gp_field (.tmp 8) rfl (show av.eval (.tmp 8) = (.pointer (some ⟨p, 0, none⟩)) from ((hk.old 8 (by kernel_rfl)).trans rfl)) (v := .pointer (some ⟨p, 1, none⟩)) (fun w => by kernel_rfl) ⟨Below.refl _ _, rfl⟩⟩
      · exact .inl ⟨wanted_free rfl, gp_load (.tmp 30) rfl (show av.eval (.tmp 30) = (.pointer (some ⟨p, 1, none⟩)) from hk.slot 30 (by kernel_rfl)) (C6 ⟨wx, hk.below⟩) ⟨Below.refl _ _, rfl⟩⟩
      · exact .inl ⟨wanted_free rfl, gp_load (.tmp 4) rfl (show av.eval (.tmp 4) = (.pointer (some ⟨w.heap.size, 0, none⟩)) from ((hk.old 4 (by kernel_rfl)).trans rfl)) (C7 ⟨wx, hk.below⟩) ⟨Below.refl _ _, rfl⟩⟩
      · exact .inl ⟨wanted_free rfl, gp_call rfl (hk.fn _) #[.agg C] (fun w => by kernel_rfl) (by simp only [List.map_toArray, List.map_cons, List.map_nil, (show av.eval (.tmp 32) = (.agg C) from hk.slot 32 (by kernel_rfl))]) ((HH2.out ⟨wx, hk.below⟩).mono fun e w' ⟨he, hb⟩ => ⟨_, he, hb, rfl⟩)⟩
      · exact .inl ⟨wanted_free rfl, gp_bin rfl (show av.eval (.tmp 31) = (.agg T1) from hk.slot 31 (by kernel_rfl)) (show av.eval (.tmp 33) = (.agg T2) from hk.slot 33 (by kernel_rfl)) (v := .bool r2) (fun w => HX2.out w) ⟨Below.refl _ _, rfl⟩⟩
      · exact .inl ⟨wanted_free rfl, gp_callv (cap := #[]) rfl (show av.eval (.tmp 29) = _ from hk.slot 29 (by kernel_rfl)) #[.bool r2, .int .i64 142] #[.bool r2, .int .i64 142] rfl (fun w => by kernel_rfl) (by simp only [List.map_toArray, List.map_cons, List.map_nil, show ∀ v, av.eval (.const v) = v from hk.lit, show av.eval (.tmp 34) = .bool r2 from hk.slot 34 (by kernel_rfl)]) ((unless_calls wx r2 142).mono fun e w' ⟨v, he, hb, hv⟩ => ⟨v, he, hb, hv⟩)⟩
      · exact .inl ⟨wanted_free rfl, gp_move (.tmp 10) rfl ⟨Below.refl _ _, (hk.old 10 (by kernel_rfl)).trans rfl⟩⟩
      · exact .inl ⟨wanted_free rfl, gp_field (.tmp 8) rfl (show av.eval (.tmp 8) = (.pointer (some ⟨p, 0, none⟩)) from ((hk.old 8 (by kernel_rfl)).trans rfl)) (v := .pointer (some ⟨p, 0, none⟩)) (fun w => by kernel_rfl) ⟨Below.refl _ _, rfl⟩⟩
      · exact .inl ⟨wanted_free rfl, gp_load (.tmp 37) rfl (show av.eval (.tmp 37) = (.pointer (some ⟨p, 0, none⟩)) from hk.slot 37 (by kernel_rfl)) (load_at (fun w => by kernel_rfl) (HIS.out.keep hk.below).ver) ⟨Below.refl _ _, rfl⟩⟩
      · exact .inl ⟨wanted_free rfl, gp_field (.tmp 4) rfl (show av.eval (.tmp 4) = (.pointer (some ⟨w.heap.size, 0, none⟩)) from ((hk.old 4 (by kernel_rfl)).trans rfl)) (v := .pointer (some ⟨w.heap.size, 0, none⟩)) (fun w => by kernel_rfl) ⟨Below.refl _ _, rfl⟩⟩
      · exact .inl ⟨wanted_free rfl, gp_load (.tmp 39) rfl (show av.eval (.tmp 39) = (.pointer (some ⟨w.heap.size, 0, none⟩)) from hk.slot 39 (by kernel_rfl)) (load_at (fun w => by kernel_rfl) (HIM.out.keep hk.below).ver) ⟨Below.refl _ _, rfl⟩⟩
      · exact .inl ⟨wanted_free rfl, gp_bin rfl (show av.eval (.tmp 38) = (.int .i64 S.ver.1) from hk.slot 38 (by kernel_rfl)) (show av.eval (.tmp 40) = (.int .i64 M.ver.1) from hk.slot 40 (by kernel_rfl)) (v := .bool r3) (fun w => HX3.out w) ⟨Below.refl _ _, rfl⟩⟩
      · exact .inl ⟨wanted_free rfl, gp_callv (cap := #[]) rfl (show av.eval (.tmp 36) = _ from hk.slot 36 (by kernel_rfl)) #[.bool r3, .int .i64 143] #[.bool r3, .int .i64 143] rfl (fun w => by kernel_rfl) (by simp only [List.map_toArray, List.map_cons, List.map_nil, show ∀ v, av.eval (.const v) = v from hk.lit, show av.eval (.tmp 41) = .bool r3 from hk.slot 41 (by kernel_rfl)]) ((unless_calls wx r3 143).mono fun e w' ⟨v, he, hb, hv⟩ => ⟨v, he, hb, hv⟩)⟩
      · refine .inl ⟨wanted_free rfl, gp_run (v := .func (.func 75) #[] #[.pointer (some ⟨p, 0, none⟩)]) (w' := wx) ?_ ⟨Below.refl _ _, rfl⟩⟩
        unfold execOp
        simp only [List.map_toArray, List.map_cons, List.map_nil, show av.eval (.tmp 8) = .pointer (some ⟨p, 0, none⟩) from (hk.old 8 (by kernel_rfl)).trans rfl]
        rfl
      · exact .inl ⟨wanted_free rfl, gp_move (.tmp 10) rfl ⟨Below.refl _ _, (hk.old 10 (by kernel_rfl)).trans rfl⟩⟩
      · exact .inl ⟨wanted_free rfl, gp_field (.tmp 4) rfl (show av.eval (.tmp 4) = (.pointer (some ⟨w.heap.size, 0, none⟩)) from ((hk.old 4 (by kernel_rfl)).trans rfl)) (v := .pointer (some ⟨w.heap.size, 34, none⟩)) (fun w => by kernel_rfl) ⟨Below.refl _ _, rfl⟩⟩
      · exact .inl ⟨wanted_free rfl, gp_load (.tmp 45) rfl (show av.eval (.tmp 45) = (.pointer (some ⟨w.heap.size, 34, none⟩)) from hk.slot 45 (by kernel_rfl)) ((HIM.out.keep hk.below).in34) ⟨Below.refl _ _, rfl⟩⟩
      · exact .inl ⟨wanted_free rfl, gp_field (.tmp 8) rfl (show av.eval (.tmp 8) = (.pointer (some ⟨p, 0, none⟩)) from ((hk.old 8 (by kernel_rfl)).trans rfl)) (v := .pointer (some ⟨p, 34, none⟩)) (fun w => by kernel_rfl) ⟨Below.refl _ _, rfl⟩⟩
      · exact .inl ⟨wanted_free rfl, gp_load (.tmp 47) rfl (show av.eval (.tmp 47) = (.pointer (some ⟨p, 34, none⟩)) from hk.slot 47 (by kernel_rfl)) ((HIS.out.keep hk.below).in34) ⟨Below.refl _ _, rfl⟩⟩
      · exact .inl ⟨wanted_free rfl, gp_call rfl (hk.fn _) #[.agg #[.slice M.cfg.wa M.cfg.ws.length M.cfg.wc, .slice M.cfg.pa M.cfg.ps.length M.cfg.pc, .slice M.cfg.ca M.cfg.cs.length M.cfg.cc], .agg #[.slice S.cfg.wa S.cfg.ws.length S.cfg.wc, .slice S.cfg.pa S.cfg.ps.length S.cfg.pc, .slice S.cfg.ca S.cfg.cs.length S.cfg.cc]] (fun w => by kernel_rfl) (by simp only [List.map_toArray, List.map_cons, List.map_nil, (show av.eval (.tmp 46) = (.agg #[.slice M.cfg.wa M.cfg.ws.length M.cfg.wc, .slice M.cfg.pa M.cfg.ps.length M.cfg.pc, .slice M.cfg.ca M.cfg.cs.length M.cfg.cc]) from hk.slot 46 (by kernel_rfl)), (show av.eval (.tmp 48) = (.agg #[.slice S.cfg.wa S.cfg.ws.length S.cfg.wc, .slice S.cfg.pa S.cfg.ps.length S.cfg.pc, .slice S.cfg.ca S.cfg.cs.length S.cfg.cc]) from hk.slot 48 (by kernel_rfl))]) ((HC5.out ⟨wx, hk.below⟩).mono fun e w' ⟨he, hb⟩ => ⟨_, he, hb, rfl⟩)⟩
      · exact .inl ⟨wanted_free rfl, gp_bin rfl (show av.eval (.tmp 49) = (.int .i64 cE) from hk.slot 49 (by kernel_rfl)) rfl (v := .bool r5) (fun w => HX5.out w) ⟨Below.refl _ _, rfl⟩⟩
      · exact .inl ⟨wanted_free rfl, gp_callv (cap := #[]) rfl (show av.eval (.tmp 44) = _ from hk.slot 44 (by kernel_rfl)) #[.bool r5, .int .i64 130] #[.bool r5, .int .i64 130] rfl (fun w => by kernel_rfl) (by simp only [List.map_toArray, List.map_cons, List.map_nil, show ∀ v, av.eval (.const v) = v from hk.lit, show av.eval (.tmp 50) = .bool r5 from hk.slot 50 (by kernel_rfl)]) ((unless_calls wx r5 130).mono fun e w' ⟨v, he, hb, hv⟩ => ⟨v, he, hb, hv⟩)⟩
    intro av wz hbz hsame hall
    have he := act_same hsame [24, 25, 26, 27, 28, 29, 30, 31, 32, 33, 34, 35, 36, 37, 38, 39, 40, 41, 42, 43, 44, 45, 46, 47, 48, 49, 50, 51] (by kernel_rfl)
    simp only [List.foldl_cons, List.foldl_nil] at he
    have T28 : tF r1 141 (av.eval (.tmp 28)) wz := hall 28 (by kernel_rfl)
    generalize av.eval (.tmp 28) = g28 at he T28
    have T35 : tF r2 142 (av.eval (.tmp 35)) wz := hall 35 (by kernel_rfl)
    generalize av.eval (.tmp 35) = g35 at he T35
    have T42 : tF r3 143 (av.eval (.tmp 42)) wz := hall 42 (by kernel_rfl)
    generalize av.eval (.tmp 42) = g42 at he T42
    have T51 : tF r5 130 (av.eval (.tmp 51)) wz := hall 51 (by kernel_rfl)
    generalize av.eval (.tmp 51) = g51 at he T51
    rw [show av.eval (.tmp 43) = (.func (.func 75) #[] #[.pointer (some ⟨p, 0, none⟩)]) from hall 43 (by kernel_rfl)] at he
    generalize av.eval (.tmp 24) = y24 at he
    generalize av.eval (.tmp 25) = y25 at he
    generalize av.eval (.tmp 26) = y26 at he
    generalize av.eval (.tmp 27) = y27 at he
    generalize av.eval (.tmp 29) = y29 at he
    generalize av.eval (.tmp 30) = y30 at he
    generalize av.eval (.tmp 31) = y31 at he
    generalize av.eval (.tmp 32) = y32 at he
    generalize av.eval (.tmp 33) = y33 at he
    generalize av.eval (.tmp 34) = y34 at he
    generalize av.eval (.tmp 36) = y36 at he
    generalize av.eval (.tmp 37) = y37 at he
    generalize av.eval (.tmp 38) = y38 at he
    generalize av.eval (.tmp 39) = y39 at he
    generalize av.eval (.tmp 40) = y40 at he
    generalize av.eval (.tmp 41) = y41 at he
    generalize av.eval (.tmp 44) = y44 at he
    generalize av.eval (.tmp 45) = y45 at he
    generalize av.eval (.tmp 46) = y46 at he
    generalize av.eval (.tmp 47) = y47 at he
    generalize av.eval (.tmp 48) = y48 at he
    generalize av.eval (.tmp 49) = y49 at he
    generalize av.eval (.tmp 50) = y50 at he
    simp only [put_lit] at he
    dsimp only [List.set_cons_zero, List.set_cons_succ] at he
    subst he
    clear hsame hall
    simp only [List.drop_succ_cons, List.drop_zero]
    obtain ⟨p1, q1, rfl, u1, x1⟩ := T28
    obtain ⟨p2, q2, rfl, u2, x2⟩ := T35
    obtain ⟨p3, q3, rfl, u3, x3⟩ := T42
    obtain ⟨p5, q5, rfl, u5, x5⟩ := T51
    have HBZ := Lib.hid hbz
    have HU := Lib.hid (And.intro u1 (And.intro x1 (And.intro u2 (And.intro x2 (And.intro u3 (And.intro x3 (And.intro u5 x5)))))))
    clear HR1 HH2 HC5 C5 C6 C7 HX2 HX3 HX5 hbz u1 x1 u2 x2 u3 x3 u5 x5
    go_upto_region 6 with fail
    obtain ⟨b, hb⟩ : ∃ b, b = wz.heap.size := ⟨_, rfl⟩
    obtain ⟨W, hW⟩ : ∃ W, W = wz.alloc (Obj.cells #[Value.func (Fn.func 74) #[] #[Value.pointer (some { block := p1, off := 0 }), Value.pointer (some { block := q1, off := 0 })], Value.func (Fn.func 74) #[] #[Value.pointer (some { block := p2, off := 0 }), Value.pointer (some { block := q2, off := 0 })], Value.func (Fn.func 74) #[] #[Value.pointer (some { block := p3, off := 0 }), Value.pointer (some { block := q3, off := 0 })], Value.func (Fn.func 75) #[] #[Value.pointer (some { block := p, off := 0 })], Value.func (Fn.func 74) #[] #[Value.pointer (some { block := p5, off := 0 }), Value.pointer (some { block := q5, off := 0 })]] 107) := ⟨_, rfl⟩
    have hN := heap_alloc_new wz (Obj.cells #[Value.func (Fn.func 74) #[] #[Value.pointer (some { block := p1, off := 0 }), Value.pointer (some { block := q1, off := 0 })], Value.func (Fn.func 74) #[] #[Value.pointer (some { block := p2, off := 0 }), Value.pointer (some { block := q2, off := 0 })], Value.func (Fn.func 74) #[] #[Value.pointer (some { block := p3, off := 0 }), Value.pointer (some { block := q3, off := 0 })], Value.func (Fn.func 75) #[] #[Value.pointer (some { block := p, off := 0 })], Value.func (Fn.func 74) #[] #[Value.pointer (some { block := p5, off := 0 }), Value.pointer (some { block := q5, off := 0 })]] 107)
    rw [← hW, ← hb] at hN
    rw [← hW, ← hb]
    have HBW : Hid (Below wz.heap.size wz W) := by rw [hW]; exact (Below.refl _ _).alloc (Nat.le_refl _) _
    have HU2 : Hid ((W.cell? ⟨p1, 0, none⟩ = some (.bool r1) ∧ W.cell? ⟨q1, 0, none⟩ = some (.int .i64 141)) ∧ (W.cell? ⟨p2, 0, none⟩ = some (.bool r2) ∧ W.cell? ⟨q2, 0, none⟩ = some (.int .i64 142)) ∧ (W.cell? ⟨p3, 0, none⟩ = some (.bool r3) ∧ W.cell? ⟨q3, 0, none⟩ = some (.int .i64 143)) ∧ (W.cell? ⟨p5, 0, none⟩ = some (.bool r5) ∧ W.cell? ⟨q5, 0, none⟩ = some (.int .i64 130))) := by
      obtain ⟨u1, x1, u2, x2, u3, x3, u5, x5⟩ := HU.out
      exact ⟨⟨Go.Cit.keep HBW.out u1, Go.Cit.keep HBW.out x1⟩, ⟨Go.Cit.keep HBW.out u2, Go.Cit.keep HBW.out x2⟩, ⟨Go.Cit.keep HBW.out u3, Go.Cit.keep HBW.out x3⟩, ⟨Go.Cit.keep HBW.out u5, Go.Cit.keep HBW.out x5⟩⟩
    have HIS2 := Lib.hid ((HIS.out.keep HBZ.out).keep HBW.out)
    have HG4 := Lib.hid (blk_stay (blk_stay HG3.out HBZ.out) HBW.out)
    have HB4 : Hid (Below w.heap.size w W) := (HB3.out.trans (HBZ.out.mono HB3.out.size)).trans (HBW.out.mono (Nat.le_trans HB3.out.size HBZ.out.size))
    have HF4 : Hid (FreshM w0.heap.size W S) := ⟨HF3.out.p32, HF3.out.t32, (HF3.out.cfg.stay HBZ.out).stay HBW.out⟩
    have HK4 := Lib.hid (cells_of hN)
    have HS4 := Lib.hid ((HAS.out.stay HBZ.out).stay HBW.out)
    have HW0 : Hid (w.heap.size ≤ w0.heap.size) := by have := HGS.out; rw [Hid]; omega
    have ix0 := fun w => ixF0 b w
    have ix1 := fun w => ixF1 b w
    have ix2 := fun w => ixF2 b w
    have ix3 := fun w => ixF3 b w
    have ix4 := fun w => ixF4 b w
    clear hb hW hN HBW HBZ HU HIS HG3 HB3 HF3 HAS HIM HAM3 HK3
    have c0 := HK4.out 0 rfl
    have c1 := HK4.out 1 rfl
    have c2 := HK4.out 2 rfl
    have c3 := HK4.out 3 rfl
    have c4 := HK4.out 4 rfl
    clear HK4
    go_wp2_with fail
    refine wp_loop_rounds 6 ?_
    rw [rounds_succ]
    go_wp2_with fail
    refine (unless1_calls _ r1 141 _ _ HU2.out.1.1 HU2.out.1.2).mono ?_
    rintro e1 w' ⟨rfl, rfl⟩
    cases r1 with
    | false =>
      have hqe : QE = 141 := by rw [HQ.out]; rfl
      go_wp2_with (first | ((with_reducible refine wpList_value (o := ⟨some 63, .build _ _, _, _, _, _⟩) (by with_unfolding_all rfl) (HBM.out _ _ _ _ _ _) ?_)) | ((with_reducible refine wpList_storeB (o := ⟨none, .store _ (.tmp 6) (.tmp 63), _, _, _, _⟩) rowM (.tmp 6) (.tmp 63) (by with_unfolding_all rfl) (by with_unfolding_all rfl) (by with_unfolding_all rfl) (by with_unfolding_all rfl) (by with_unfolding_all rfl) HG4.out HZS.out.1 HZS.out.1 HZS.out.2 ?_); intro wf hbwf hSwf; have HBwf := Lib.hid hbwf; have HSwf := Lib.hid hSwf; clear hbwf hSwf))
      refine bodyPost_ret (resB2 rowM rfl rfl HBwf.out HZS.out.1) rfl ⟨zM, ?_, ?_, freshM_z _ _, ?_⟩
      · rw [hqe, hZ.out]; rfl
      · rw [hQM.out, checkM, ← hQE.out, hqe, if_neg (by decide)]; rfl
      · exact HB4.out.trans (HSwf.out.below HB4.out.size (fun k hk => by have := HGW.out; omega))
    | true =>
      go_wp2_with fail
      rw [rounds_succ]
      go_wp2_with fail
      refine (unless1_calls _ r2 142 _ _ HU2.out.2.1.1 HU2.out.2.1.2).mono ?_
      rintro e1 w' ⟨rfl, rfl⟩
      cases r2 with
      | false =>
        have hqe : QE = 142 := by rw [HQ.out]; rfl
        go_wp2_with (first | ((with_reducible refine wpList_value (o := ⟨some 63, .build _ _, _, _, _, _⟩) (by with_unfolding_all rfl) (HBM.out _ _ _ _ _ _) ?_)) | ((with_reducible refine wpList_storeB (o := ⟨none, .store _ (.tmp 6) (.tmp 63), _, _, _, _⟩) rowM (.tmp 6) (.tmp 63) (by with_unfolding_all rfl) (by with_unfolding_all rfl) (by with_unfolding_all rfl) (by with_unfolding_all rfl) (by with_unfolding_all rfl) HG4.out HZS.out.1 HZS.out.1 HZS.out.2 ?_); intro wf hbwf hSwf; have HBwf := Lib.hid hbwf; have HSwf := Lib.hid hSwf; clear hbwf hSwf))
        refine bodyPost_ret (resB2 rowM rfl rfl HBwf.out HZS.out.1) rfl ⟨zM, ?_, ?_, freshM_z _ _, ?_⟩
        · rw [hqe, hZ.out]; rfl
        · rw [hQM.out, checkM, ← hQE.out, hqe, if_neg (by decide)]; rfl
        · exact HB4.out.trans (HSwf.out.below HB4.out.size (fun k hk => by have := HGW.out; omega))
      | true =>
        go_wp2_with fail
        rw [rounds_succ]
        go_wp2_with fail
        refine (unless1_calls _ r3 143 _ _ HU2.out.2.2.1.1 HU2.out.2.2.1.2).mono ?_
        rintro e1 w' ⟨rfl, rfl⟩
        cases r3 with
        | false =>
          have hqe : QE = 143 := by rw [HQ.out]; rfl
          go_wp2_with (first | ((with_reducible refine wpList_value (o := ⟨some 63, .build _ _, _, _, _, _⟩) (by with_unfolding_all rfl) (HBM.out _ _ _ _ _ _) ?_)) | ((with_reducible refine wpList_storeB (o := ⟨none, .store _ (.tmp 6) (.tmp 63), _, _, _, _⟩) rowM (.tmp 6) (.tmp 63) (by with_unfolding_all rfl) (by with_unfolding_all rfl) (by with_unfolding_all rfl) (by with_unfolding_all rfl) (by with_unfolding_all rfl) HG4.out HZS.out.1 HZS.out.1 HZS.out.2 ?_); intro wf hbwf hSwf; have HBwf := Lib.hid hbwf; have HSwf := Lib.hid hSwf; clear hbwf hSwf))
          refine bodyPost_ret (resB2 rowM rfl rfl HBwf.out HZS.out.1) rfl ⟨zM, ?_, ?_, freshM_z _ _, ?_⟩
          · rw [hqe, hZ.out]; rfl
          · rw [hQM.out, checkM, ← hQE.out, hqe, if_neg (by decide)]; rfl
          · exact HB4.out.trans (HSwf.out.below HB4.out.size (fun k hk => by have := HGW.out; omega))
        | true =>
          go_wp2_with fail
          rw [rounds_succ]
          go_wp2_with fail
          have hkv := asksV_calls _ p S HIS2.out HS4.out HSS.out
          rw [← hvE.out] at hkv
          refine hkv.mono ?_
          rintro e1 wv ⟨rfl, hbv⟩
          have HG5 := Lib.hid (blk_stay HG4.out hbv)
          have HB5 := Lib.hid (HB4.out.trans (hbv.mono HB4.out.size))
          have HF5 : Hid (FreshM w0.heap.size wv S) := ⟨HF4.out.p32, HF4.out.t32, HF4.out.cfg.stay hbv⟩
          have HIS5 := Lib.hid (HIS2.out.keep hbv)
          have k4 := Go.Cit.keep hbv c4
          have HU5 := Lib.hid (And.intro (Go.Cit.keep hbv HU2.out.2.2.2.1) (Go.Cit.keep hbv HU2.out.2.2.2.2))
          clear hkv hbv c0 c1 c2 c3 c4
          by_cases hv0 : vE = 0
          · have z1 : ((vE : Int) != 0) = false := by simp [hv0]
            have HV0 := Lib.hid hv0
            clear hv0
            go_wp2_with fail
            rw [rounds_succ]
            go_wp2_with fail
            refine (unless1_calls _ r5 130 _ _ HU5.out.1 HU5.out.2).mono ?_
            rintro e1 w' ⟨rfl, rfl⟩
            have hw := HIS5.out.whole
            rw [← hCS.out] at hw
            have HL5 := Lib.hid hw
            clear hw
            cases r5 with
            | false =>
              have hqe : QE = 130 := by rw [HQ.out, HV0.out]; rfl
              go_wp2_with (first | ((with_reducible refine wpList_value (o := ⟨some 63, .build _ _, _, _, _, _⟩) (by with_unfolding_all rfl) (HBM.out _ _ _ _ _ _) ?_)) | ((with_reducible refine wpList_storeB (o := ⟨none, .store _ (.tmp 6) (.tmp 63), _, _, _, _⟩) rowM (.tmp 6) (.tmp 63) (by with_unfolding_all rfl) (by with_unfolding_all rfl) (by with_unfolding_all rfl) (by with_unfolding_all rfl) (by with_unfolding_all rfl) HG5.out HZS.out.1 HZS.out.1 HZS.out.2 ?_); intro wf hbwf hSwf; have HBwf := Lib.hid hbwf; have HSwf := Lib.hid hSwf; clear hbwf hSwf))
              refine bodyPost_ret (resB2 rowM rfl rfl HBwf.out HZS.out.1) rfl ⟨zM, ?_, ?_, freshM_z _ _, ?_⟩
              · rw [hqe, hZ.out]; rfl
              · rw [hQM.out, checkM, ← hQE.out, hqe, if_neg (by decide)]; rfl
              · exact HB5.out.trans (HSwf.out.below HB5.out.size (fun k hk => by have := HGW.out; omega))
            | true =>
              go_wp2_with fail
              rw [rounds_succ]
              have hqe : QE = 0 := by rw [HQ.out, HV0.out]; rfl
              go_wp2_with (first | (with_reducible refine wpList_load_op (o := ⟨some 66, .load 55 (.tmp 8), _, _, _, _⟩) (by with_unfolding_all rfl) (by with_unfolding_all rfl) (by with_unfolding_all rfl) HL5.out ?_) | ((with_reducible refine wpList_storeB (o := ⟨none, .store _ (.tmp 6) (.tmp 66), _, _, _, _⟩) rowM (.tmp 6) (.tmp 66) (by with_unfolding_all rfl) (by with_unfolding_all rfl) (by with_unfolding_all rfl) (by with_unfolding_all rfl) (by with_unfolding_all rfl) HG5.out HZS.out.1 HCS.out.1 HCS.out.2 ?_); intro wf hbwf hSwf; have HBwf := Lib.hid hbwf; have HSwf := Lib.hid hSwf; clear hbwf hSwf))
              refine bodyPost_ret (resB2 rowM rfl rfl HBwf.out HCS.out.1) rfl ⟨S, ?_, ?_, ⟨HF5.out.p32, HF5.out.t32, ?_⟩, ?_⟩
              · rw [hqe, hCS.out]; rfl
              · rw [hQM.out, checkM, ← hQE.out, hqe, if_pos rfl]; exact HSM.out
              · exact (HF5.out.cfg.saveB HSwf.out (fun k hk => by have := HGW.out; have := HGS.out; omega)).low HW0.out
              · exact HB5.out.trans (HSwf.out.below HB5.out.size (fun k hk => by have := HGW.out; omega))
          · have z1 : ((vE : Int) != 0) = true := by simp [hv0]
            have hqe : QE = vE := by rw [HQ.out]; simp [firstE, hv0]
            have HVN := Lib.hid hv0
            clear hv0
            go_wp2_with (first | ((with_reducible refine wpList_value (o := ⟨some 63, .build _ _, _, _, _, _⟩) (by with_unfolding_all rfl) (HBM.out _ _ _ _ _ _) ?_)) | ((with_reducible refine wpList_storeB (o := ⟨none, .store _ (.tmp 6) (.tmp 63), _, _, _, _⟩) rowM (.tmp 6) (.tmp 63) (by with_unfolding_all rfl) (by with_unfolding_all rfl) (by with_unfolding_all rfl) (by with_unfolding_all rfl) (by with_unfolding_all rfl) HG5.out HZS.out.1 HZS.out.1 HZS.out.2 ?_); intro wf hbwf hSwf; have HBwf := Lib.hid hbwf; have HSwf := Lib.hid hSwf; clear hbwf hSwf))
            refine bodyPost_ret (resB2 rowM rfl rfl HBwf.out HZS.out.1) rfl ⟨zM, ?_, ?_, freshM_z _ _, ?_⟩
            · rw [hqe, hZ.out]; rfl
            · rw [hQM.out, checkM, ← hQE.out, hqe, if_neg (by exact HVN.out)]; rfl
            · exact HB5.out.trans (HSwf.out.below HB5.out.size (fun k hk => by have := HGW.out; omega))
end Go.Proofs.YtlholdllibghbaaGreat
