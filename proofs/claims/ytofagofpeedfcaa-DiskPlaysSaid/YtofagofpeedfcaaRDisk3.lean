/- The reference's disk: fall, falls, Crash: walked. -/
import Derived.Test.YtofagofpeedfcaaRDisk2
import Derived.StillTailTactics
namespace Go.Proofs.Ytofagofpeedfcaa
open Go Go.RowKit Go.Cit

/-- The disk while what is in its cache is gone through: its first k sectors are done. -/
def midD (q : Nat → Bool) (D : Dk) (k : Nat) : Dk := { D with S := spillK q D (dirtyP D.C k).length, C := List.replicate k none ++ D.C.drop k }
theorem midD_zero (q : Nat → Bool) (D : Dk) : midD q D 0 = D := by
  unfold midD
  simp [dirtyP, spillK_zero]
theorem midD_end (q : Nat → Bool) (D : Dk) : midD q D D.C.length = spillD q D := by
  unfold midD spillD
  rw [dirtyP_all, List.drop_length, List.append_nil]
theorem midD_ok (q : Nat → Bool) (D : Dk) (h : D.Ok) (k : Nat) (hk : k ≤ D.C.length) : (midD q D k).Ok := by
  obtain ⟨h1, h2⟩ := spillK_ok q D h (dirtyP D.C k).length
  refine ⟨h2, fun r hr => ?_, ?_, ?_, ?_, h.left, h.stay⟩
  · rcases List.mem_append.1 hr with hr | hr
    · have := List.eq_of_mem_replicate hr; simp at this
    · exact h.cac r (List.mem_of_mem_drop hr)
  · show (List.replicate k none ++ D.C.drop k).length = (spillK q D (dirtyP D.C k).length).length
    rw [h1, List.length_append, List.length_replicate, List.length_drop, ← h.len]; omega
  · show (spillK q D _).length ≤ 1024; rw [h1]; exact h.few
  · show 0 < (spillK q D _).length; rw [h1]; exact h.pos
theorem midC_at (C : CacheV) (k : Nat) (hk : k < C.length) : (List.replicate k none ++ C.drop k)[k]? = some C[k] := by
  rw [List.getElem?_append_right (by simp), List.length_replicate, Nat.sub_self, List.getElem?_drop, Nat.add_zero, List.getElem?_eq_getElem hk]
theorem midC_succ (C : CacheV) (k : Nat) (hk : k < C.length) : (List.replicate (k + 1) none ++ C.drop (k + 1)) = (List.replicate k none ++ C.drop k).set k none := by
  rw [List.set_append_right _ _ (by simp), List.length_replicate, Nat.sub_self, List.drop_eq_getElem_cons hk, List.set_cons_zero, List.replicate_succ', List.append_assoc]; rfl
theorem midD_none (q : Nat → Bool) (D : Dk) (k : Nat) (hk : k < D.C.length) (h : D.C[k] = none) : midD q D (k + 1) = midD q D k := by
  unfold midD
  rw [midC_succ _ _ hk, dirtyP_succ, List.getElem?_eq_getElem hk, h]
  congr 1
  · simp
  · apply List.ext_getElem?
    intro j
    by_cases e : k = j
    · subst e
      rw [List.getElem?_set_self (by simp; omega), midC_at _ _ hk, h]
    · rw [List.getElem?_set_ne e]
theorem midD_some (q : Nat → Bool) (D : Dk) (k : Nat) (hk : k < D.C.length) (x : List UInt8) (h : D.C[k] = some x) : (dirtyP D.C (k + 1)).length = (dirtyP D.C k).length + 1 ∧
    midD q D (k + 1) = { midD q D k with S := if q (dirtyP D.C k).length then (midD q D k).S.set k x else (midD q D k).S, C := (midD q D k).C.set k none } := by
  have h1 : dirtyP D.C (k + 1) = dirtyP D.C k ++ [k] := by rw [dirtyP_succ, List.getElem?_eq_getElem hk, h]; rfl
  have h2 : (dirtyP D.C (k + 1)).length = (dirtyP D.C k).length + 1 := by rw [h1, List.length_append]; rfl
  refine ⟨h2, ?_⟩
  have ht := dirtyP_take D.C (k := k + 1) hk
  have hlt : (dirtyP D.C k).length < (dirtyL D.C).length := by
    have := congrArg List.length ht
    rw [List.length_take, h2] at this
    omega
  have hi : (dirtyL D.C)[(dirtyP D.C k).length] = k := by
    have : ((dirtyL D.C).take (dirtyP D.C (k + 1)).length)[(dirtyP D.C k).length]? = some k := by
      rw [← ht, h1, List.getElem?_append_right (Nat.le_refl _), Nat.sub_self]; rfl
    rw [List.getElem?_take, if_pos (by omega), List.getElem?_eq_getElem hlt] at this
    exact Option.some.inj this
  have hs := spillK_succ q D hlt hi (r := x) (by rw [List.getElem?_eq_getElem hk, h])
  unfold midD
  rw [midC_succ _ _ hk, h2, hs]
theorem ro_set {w : World} {g : Nat} {L : List Ro} {c : Nat} (h : Held cRo 2 91 w g L c) {k : Nat} (hk : k < L.length) : 
    (∀ (l : List UInt8) (a : Option Addr) (n : Nat), Held cRo 2 91 (w.setCell ⟨g, k * 2, none⟩ (.slice a l.length n)) g (L.set k { L[k] with f := l, fa := a, fc := n }) c) ∧
    (∀ (l : List UInt8) (a : Option Addr) (n : Nat), Held cRo 2 91 (w.setCell ⟨g, k * 2 + 1, none⟩ (.slice a l.length n)) g (L.set k { L[k] with k := l, ka := a, kc := n }) c) :=
  ⟨fun l a n => h.set (fun _ => rfl) hk (j := 0) (by decide) (by rfl), fun l a n => h.set (fun _ => rfl) hk (j := 1) (by decide) (by rfl)⟩
/-- A sector's cell is written. -/
theorem RefIn.put {w w' : World} {r : Rl} {D D' : Dk} {L L' : List Ro} {c sc : Nat} {sa : Option Addr} (h : RefIn w r D L c sa sc) (hs : Save (· ≠ r.lb) w w') (hh : Held cRo 2 91 w' r.lb L' c) (hl : L'.length = L.length)
    (hr : ∀ x ∈ L', x.At r w') (hS : D'.S = L'.map (·.f)) (hC : D'.C = L'.map Ro.cache) (hu : D'.up = D.up) (hle : D'.left = D.left) (hst : D'.stay = D.stay) (hok : D'.Ok) : RefIn w' r D' L' c sa sc := by
  refine ⟨?_, hh, hr, ?_, h.sin.mono hs.size, h.ne, h.bB, h.lB, h.nx, fun k hk => Nat.lt_of_lt_of_le (h.xlt k hk) hs.size, hS, hC, hok⟩
  · rw [hs.block _ (Array.getElem?_eq_some_iff.1 h.box).1 h.ne, h.box]
    show some (Obj.cells #[_, _, _, _] _ _) = some (Obj.cells #[_, _, _, _] _ _)
    rw [hl, hu, hle, hst]
  · rw [hst]; exact h.srow.save hs (fun g hg => (h.sin g hg).2.1.1.2)
theorem eqlNil (w : World) (a : Option Addr) (n c : Nat) : (binOp .eql 22 (.slice a n c) (.slice none 0 0)).run Try.prog w = .ok (.bool a.isNone) w := Lib.run_eql_slice_nil (P := Try.prog) w 22 5 a n c 0 0 Try.underlying22
theorem bit_mod (x : UInt8) (k : Nat) : ((wrap64 (x.toNat : Int) / 2 ^ k).tmod 2 == 1) = decide (x.toNat / 2 ^ k % 2 = 1) := by
  have hx := b_lt x
  have e0 : wrap64 (x.toNat : Int) = (x.toNat : Int) := by unfold wrap64; omega
  have e : ((x.toNat : Int) / 2 ^ k) = ((x.toNat / 2 ^ k : Nat) : Int) := by rw [Int.natCast_ediv, Int.natCast_pow]; rfl
  rw [e0, e, Int.tmod_eq_emod_of_nonneg (Int.natCast_nonneg _)]
  generalize x.toNat / 2 ^ k = y
  rw [Bool.eq_iff_iff, beq_iff_eq, decide_eq_true_iff]
  omega
def rf6 (r : Rl) (M c k : Nat) (y : Addr) (n1 n2 : Nat) : Nat → Value
  | 42 => (.pointer (some ⟨r.b, 0, none⟩))
  | 43 => (.pointer (some ⟨r.b, 0, none⟩))
  | 44 => (.pointer (some ⟨r.b, 0, none⟩))
  | 45 => (.slice (some ⟨r.lb, 0, none⟩) M c)
  | 46 => (.int .i64 (k : Int))
  | 47 => (.pointer (some ⟨r.b, 0, none⟩))
  | 48 => (.pointer (some ⟨r.b, 0, none⟩))
  | 49 => (.pointer (some ⟨r.b, 0, none⟩))
  | 50 => (.slice (some ⟨r.lb, 0, none⟩) M c)
  | 51 => (.int .i64 (k : Int))
  | 52 => (.pointer (some ⟨r.lb, k * 2, none⟩))
  | 53 => (.pointer (some ⟨r.lb, k * 2 + 1, none⟩))
  | 54 => (.slice (some y) n1 n2)
  | 55 => (.pointer (some ⟨r.lb, k * 2, none⟩))
  | 56 => (.pointer (some ⟨r.lb, k * 2, none⟩))
  | _ => undef
def rf6o (r : Rl) (_ _ k : Nat) (_ : Addr) (_ _ : Nat) : Nat → Value
  | 0 => (.pointer (some ⟨r.b, 0, none⟩))
  | 5 => (.int .i64 (k : Int))
  | _ => undef
set_option maxRecDepth 100000 in
set_option maxHeartbeats 2000000 in
theorem rfall_calls (w : World) (r : Rl) (D : Dk) (h : RefAt w r D) (a : Option Addr) (l : List UInt8) (c9 : Nat) (hr : Row w a l c9) (ha : l ≠ [] → ∀ g, Go.Cit.blk a = some g → r.Off g) :
    Calls Try.prog 77 #[.pointer (some ⟨r.b, 0, none⟩), .slice a l.length c9] w fun e w' => e = .returned (.tuple #[]) ∧ RefAt w' r (fallD l D) ∧ Save r.Off w w' := by
  obtain ⟨L0, c, sa, sc, h⟩ := h
  have HLN : Hid (L0.length = D.C.length) := by rw [Hid, h.len, h.ok.len]
  have hfew : D.C.length ≤ 1024 := by rw [h.ok.len]; exact h.ok.few
  have HH := Lib.hid h
  have HR := Lib.hid hr
  have hen := eqlNil
  clear h hr
  go_enter Try.func77, Try.ntmps77
  go_wp2_with fail
  go_loopw [4, 5] (fun n i wr => ∃ (k : Nat) (L : List Ro), k ≤ D.C.length ∧ i = .int .i64 (k : Int) ∧ n = .int .i64 ((dirtyP D.C k).length : Int) ∧ Hid (L.length = D.C.length) ∧ Hid (RefIn wr r (midD (bitQ l) D k) L c sa sc ∧ Save r.Off w wr)) (fun _ i _ => D.C.length - (intOf i).toNat)
  case atStart => exact ⟨0, L0, Nat.zero_le _, rfl, rfl, HLN, by rw [Hid, midD_zero]; exact ⟨HH.out, Save.refl _ _⟩⟩
  case round =>
    obtain ⟨k, L, hk, rfl, rfl, HL, HI⟩ := hrel
    obtain ⟨c0, _, _, _, ff⟩ := HI.out.1.cells
    rw [HL.out] at c0
    by_cases hlt : k < D.C.length
    · have hx := fun w => ro_index r.lb D.C.length c k hlt w
      have hkL : k < L.length := by rw [HL.out]; exact hlt
      obtain ⟨e0, e1⟩ := HI.out.1.elem k hkL
      have hca : D.C[k] = (L[k]).cache := by
        have h1 := midC_at D.C k hlt
        have h2 : (midD (bitQ l) D k).C[k]? = some D.C[k] := h1
        rw [HI.out.1.hC, List.getElem?_map, List.getElem?_eq_getElem hkL] at h2
        exact (Option.some.inj h2).symm
      obtain ⟨x, hx0⟩ : ∃ x, Hid (x = L[k]) := ⟨L[k], rfl⟩
      rw [← hx0.out] at e0 e1 hca
      cases hka : x.ka with
      | none =>
        have HE : Hid (midD (bitQ l) D (k + 1) = midD (bitQ l) D k) := midD_none _ _ _ hlt (by rw [hca, Ro.cache, hka]; rfl)
        have HN : Hid ((dirtyP D.C (k + 1)).length = (dirtyP D.C k).length) := by
          rw [Hid, dirtyP_succ, List.getElem?_eq_getElem hlt, hca, Ro.cache, hka]; simp
        rw [hka] at e1
        clear hka hca e0
        go_wp2_with fail
        go_roundw
        case rel => exact ⟨k + 1, L, hlt, by go_num, by rw [HN.out], HL, by rw [Hid, HE.out]; exact HI.out⟩
        case measure => simp [intOf]; omega
      | some y =>
        obtain ⟨HN, HM⟩ := midD_some (bitQ l) D k hlt x.k (by rw [hca, Ro.cache, hka]; rfl)
        have HN := Lib.hid HN
        have HM := Lib.hid HM
        have HPL := dirtyP_len D.C k
        obtain ⟨N, hN⟩ : ∃ N, Hid (N = (dirtyP D.C k).length) := ⟨_, rfl⟩
        rw [← hN.out] at HN HM HPL ⊢
        have HRr := Lib.hid (HR.out.save' HI.out.2 ha)
        have hll := HRr.out.le
        have hlm := HRr.out.top
        unfold maxLen at hlm
        rw [hka] at e1
        have HF64 : Hid (x.f.length = 64) := by rw [Hid, hx0.out]; exact HI.out.1.fl k hkL
        have HK64 : Hid (x.k.length = 64) := by rw [Hid, hx0.out]; exact HI.out.1.kl k hkL (by rw [← hx0.out, hka]; simp)
        have HKA := Lib.hid hka
        clear hka hca
        obtain ⟨b, hb⟩ : ∃ b, Hid (b = bitQ l N) := ⟨_, rfl⟩
        rw [← hb.out] at HM
        -- what it comes to behind both stores
        have HX : Hid (∀ w1 L1, RefIn w1 r { midD (bitQ l) D k with S := if b then (midD (bitQ l) D k).S.set k x.k else (midD (bitQ l) D k).S } L1 c sa sc → Save r.Off w w1 → L1.length = D.C.length →
            ∃ L2, L2.length = D.C.length ∧ RefIn (w1.setCell ⟨r.lb, k * 2 + 1, none⟩ (.slice none 0 0)) r (midD (bitQ l) D (k + 1)) L2 c sa sc ∧ Save r.Off w (w1.setCell ⟨r.lb, k * 2 + 1, none⟩ (.slice none 0 0))) := fun w1 L1 h1 hs1 hl1 => by
          have hk1 : k < L1.length := by rw [hl1]; exact hlt
          refine ⟨L1.set k { L1[k] with k := [], ka := none, kc := 0 }, by rw [List.length_set]; exact hl1, ?_, hs1.trans (Save.set.less (fun _ _ hk => hk.2))⟩
          refine h1.put Save.set ((ro_set h1.held hk1).2 [] none 0) (by rw [List.length_set]) ?_ ?_ ?_ (by rw [HM.out]) (by rw [HM.out]) (by rw [HM.out]) (midD_ok _ _ HH.out.ok _ hlt)
          · intro z hz
            rcases List.mem_or_eq_of_mem_set hz with hz | rfl
            · exact (h1.rows z hz).save (T := (· ≠ r.lb)) Save.set (fun _ _ hk => hk.2)
            · have h2 := (h1.rows L1[k] (List.getElem_mem hk1)).save (T := (· ≠ r.lb)) (Save.set (w := w1) (i := k * 2 + 1) (v := .slice none 0 0)) (fun _ _ hk => hk.2)
              exact ⟨h2.rf, Row.nil_ _, h2.inf, fun g hg => by simp [Go.Cit.blk] at hg⟩
          · rw [HM.out]
            have h2 := h1.hS
            rw [List.map_set]
            show (if b then _ else _) = (L1.map (·.f)).set k L1[k].f
            rw [show L1[k].f = (L1.map (·.f))[k]'(by simpa using hk1) by simp, List.set_getElem_self]
            exact h2
          · rw [HM.out, List.map_set]
            show (midD (bitQ l) D k).C.set k none = (L1.map Ro.cache).set k none
            rw [← h1.hC]
        have E0 : Hid (∀ q : After wr, q.to.cell? ⟨r.b, 0, none⟩ = some (.slice (some ⟨r.lb, 0, none⟩) D.C.length c)) := fun q => After.cell c0 q
        have E1 : Hid (∀ q : After wr, q.to.cell? ⟨r.lb, k * 2 + 1, none⟩ = some (.slice (some y) x.k.length x.kc)) := fun q => After.cell e1 q
        have EX := Lib.hid hx
        obtain ⟨L1, hL1⟩ : ∃ L1, Hid (L1 = L.set k { L[k] with f := x.k, fa := some y, fc := x.kc }) := ⟨L.set k { L[k] with f := x.k, fa := some y, fc := x.kc }, rfl⟩
        have EST : Hid (∀ wx, Cit.Alike wr wx → ∃ w', (Instr.storeAt 22 (.pointer (some ⟨r.lb, k * 2, none⟩)) (.slice (some y) x.k.length x.kc)).run Try.prog wx = .ok () w' ∧ Held cRo 2 91 w' r.lb L1 c ∧ Save (· ≠ r.lb) wr w') := fun wx ha => by
          have hI := HI.out.1.stay ha.1
          have h1 := (hI.elem k hkL).1
          refine ⟨_, store_slice (fun w => by kernel_rfl) h1 (hI.held.free _), ?_, (Save.of ha.1).trans Save.set⟩
          rw [hL1.out]
          exact (ro_set hI.held hkL).1 x.k (some y) x.kc
        have HLL : Hid (∀ wz, Held cRo 2 91 wz r.lb L1 c → Save (· ≠ r.lb) wr wz → b = true → RefIn wz r { midD (bitQ l) D k with S := if b then (midD (bitQ l) D k).S.set k x.k else (midD (bitQ l) D k).S } L1 c sa sc) := fun wz hh hs hb1 => by
          refine HI.out.1.put hs hh (by rw [hL1.out, List.length_set]) ?_ ?_ ?_ rfl rfl rfl ?_
          · intro z hz
            rw [hL1.out] at hz
            rcases List.mem_or_eq_of_mem_set hz with hz | rfl
            · exact (HI.out.1.rows z hz).save hs (fun _ _ hk => hk.2)
            · have h2 := (HI.out.1.rows L[k] (List.getElem_mem hkL)).save hs (fun _ _ hk => hk.2)
              have h3 : L[k].k = x.k ∧ L[k].ka = some y ∧ L[k].kc = x.kc := ⟨by rw [hx0.out], by rw [← hx0.out]; exact HKA.out, by rw [hx0.out]⟩
              have h4 := h2.rk
              have h5 := h2.ink
              rw [h3.1, h3.2.1, h3.2.2] at h4
              rw [h3.2.1] at h5
              exact ⟨h4, h2.rk, h5, h2.ink⟩
          · rw [hb1, hL1.out, List.map_set]
            show (midD (bitQ l) D k).S.set k x.k = (L.map (·.f)).set k x.k
            rw [← HI.out.1.hS]
          · rw [hL1.out, List.map_set]
            show (midD (bitQ l) D k).C = (L.map Ro.cache).set k (Ro.cache { L[k] with f := x.k, fa := some y, fc := x.kc })
            rw [show Ro.cache { L[k] with f := x.k, fa := some y, fc := x.kc } = (L.map Ro.cache)[k]'(by simpa using hkL) by simp [Ro.cache], List.set_getElem_self]
            exact HI.out.1.hC
          · rw [hb1]
            have h0 := midD_ok (bitQ l) D HH.out.ok k hk
            refine ⟨fun z hz => ?_, h0.cac, by show _ = ((midD (bitQ l) D k).S.set k x.k).length; rw [List.length_set]; exact h0.len, by show ((midD (bitQ l) D k).S.set k x.k).length ≤ _; rw [List.length_set]; exact h0.few, by show 0 < ((midD (bitQ l) D k).S.set k x.k).length; rw [List.length_set]; exact h0.pos, h0.left, h0.stay⟩
            rcases List.mem_or_eq_of_mem_set hz with hz | rfl
            · exact h0.sec z hz
            · exact HK64.out
        have HL1L : Hid (L1.length = D.C.length) := by rw [Hid, hL1.out, List.length_set]; exact HL.out
        by_cases hb8 : N / 8 < l.length
        · have i0 := HRr.out.index bt.slice bt.sz (N / 8) hb8
          have e2 := HRr.out.cell (N / 8) hb8
          rw [show ((N / 8 : Nat) : Int) = (N : Int) / 8 by omega] at i0
          have HB : Hid (b = decide ((l[N / 8]).toNat / 2 ^ (N % 8) % 2 = 1)) := by rw [Hid, hb.out, bitQ]; simp [List.getD, hb8]
          generalize l[N / 8] = u at e2 HB
          generalize l.length = ll at *
          have HTB : Hid (((wrap64 (u.toNat : Int) / 2 ^ (N % 8)).tmod 2 == 1) = b) := by rw [Hid, HB.out]; exact bit_mod u (N % 8)
          have tB := HTB.out
          clear HB HTB
          generalize x.k.length = n1 at *
          generalize x.kc = n2 at *
          cases b with
          | true =>
            go_upto_region 6 with fail
            clear i0 e2 tB c0 e1 hx
            refine wp_region_once (rf6 r D.C.length c k y n1 n2) (rf6o r D.C.length c k y n1 n2) [0, 5] 15 (fun wx => Held cRo 2 91 wx r.lb L1 c ∧ Save (· ≠ r.lb) wr wx) (by kernel_rfl) (by kernel_rfl) (by decide) ⟨rfl, rfl, trivial⟩ ?_ ?_
            · refine opsAll_cons ?_ (opsAll_cons ?_ (opsAll_cons ?_ (opsAll_cons ?_ (opsAll_cons ?_ (opsAll_cons ?_ (opsAll_cons ?_ (opsAll_cons ?_ (opsAll_cons ?_ (opsAll_cons ?_ (opsAll_cons ?_ (opsAll_cons ?_ (opsAll_cons ?_ (opsAll_cons ?_ (opsAll_cons ?_ (opsAll_cons ?_ opsAll_nil)))))))))))))))
              all_goals intro a hk
              · exact ⟨wanted_free rfl, .inr ⟨by decide, fun wx hst => gp_move (.tmp 0) rfl ⟨rfl, (show a.eval (.tmp 0) = (.pointer (some ⟨r.b, 0, none⟩)) from hk.old 0 (by kernel_rfl))⟩⟩⟩
              · exact ⟨wanted_free rfl, .inr ⟨by decide, fun wx hst => gp_nil (.tmp 42) rfl (show a.eval (.tmp 42) = (.pointer (some ⟨r.b, 0, none⟩)) from hk.slot 42 (by kernel_rfl)) ⟨rfl, rfl⟩⟩⟩
              · exact ⟨wanted_free rfl, .inr ⟨by decide, fun wx hst => gp_field (.tmp 43) rfl (show a.eval (.tmp 43) = (.pointer (some ⟨r.b, 0, none⟩)) from hk.slot 43 (by kernel_rfl)) (v := (.pointer (some ⟨r.b, 0, none⟩))) (fun w => by kernel_rfl) ⟨rfl, rfl⟩⟩⟩
              · exact ⟨wanted_free rfl, .inr ⟨by decide, fun wx hst => gp_load (.tmp 44) rfl (show a.eval (.tmp 44) = (.pointer (some ⟨r.b, 0, none⟩)) from hk.slot 44 (by kernel_rfl)) (v := (.slice (some ⟨r.lb, 0, none⟩) D.C.length c)) ((fun (q : After _) => load_at (fun w => by kernel_rfl) (E0.out q)) ⟨wx, (hst (by kernel_rfl)).1⟩) ⟨rfl, rfl⟩⟩⟩
              · exact ⟨wanted_free rfl, .inr ⟨by decide, fun wx hst => gp_move (.tmp 5) rfl ⟨rfl, (show a.eval (.tmp 5) = (.int .i64 (k : Int)) from hk.old 5 (by kernel_rfl))⟩⟩⟩
              · exact ⟨wanted_free rfl, .inr ⟨by decide, fun wx hst => gp_move (.tmp 0) rfl ⟨rfl, (show a.eval (.tmp 0) = (.pointer (some ⟨r.b, 0, none⟩)) from hk.old 0 (by kernel_rfl))⟩⟩⟩
              · exact ⟨wanted_free rfl, .inr ⟨by decide, fun wx hst => gp_nil (.tmp 47) rfl (show a.eval (.tmp 47) = (.pointer (some ⟨r.b, 0, none⟩)) from hk.slot 47 (by kernel_rfl)) ⟨rfl, rfl⟩⟩⟩
              · exact ⟨wanted_free rfl, .inr ⟨by decide, fun wx hst => gp_field (.tmp 48) rfl (show a.eval (.tmp 48) = (.pointer (some ⟨r.b, 0, none⟩)) from hk.slot 48 (by kernel_rfl)) (v := (.pointer (some ⟨r.b, 0, none⟩))) (fun w => by kernel_rfl) ⟨rfl, rfl⟩⟩⟩
              · exact ⟨wanted_free rfl, .inr ⟨by decide, fun wx hst => gp_load (.tmp 49) rfl (show a.eval (.tmp 49) = (.pointer (some ⟨r.b, 0, none⟩)) from hk.slot 49 (by kernel_rfl)) (v := (.slice (some ⟨r.lb, 0, none⟩) D.C.length c)) ((fun (q : After _) => load_at (fun w => by kernel_rfl) (E0.out q)) ⟨wx, (hst (by kernel_rfl)).1⟩) ⟨rfl, rfl⟩⟩⟩
              · exact ⟨wanted_free rfl, .inr ⟨by decide, fun wx hst => gp_move (.tmp 5) rfl ⟨rfl, (show a.eval (.tmp 5) = (.int .i64 (k : Int)) from hk.old 5 (by kernel_rfl))⟩⟩⟩
              · exact ⟨wanted_free rfl, .inr ⟨by decide, fun wx hst => gp_index (.tmp 50) (.tmp 51) rfl (show a.eval (.tmp 50) = (.slice (some ⟨r.lb, 0, none⟩) D.C.length c) from hk.slot 50 (by kernel_rfl)) (show a.eval (.tmp 51) = (.int .i64 (k : Int)) from hk.slot 51 (by kernel_rfl)) (v := (.pointer (some ⟨r.lb, k * 2, none⟩))) (EX.out wx) ⟨rfl, rfl⟩⟩⟩
              · exact ⟨wanted_free rfl, .inr ⟨by decide, fun wx hst => gp_field (.tmp 52) rfl (show a.eval (.tmp 52) = (.pointer (some ⟨r.lb, k * 2, none⟩)) from hk.slot 52 (by kernel_rfl)) (v := (.pointer (some ⟨r.lb, k * 2 + 1, none⟩))) (fun w => by kernel_rfl) ⟨rfl, rfl⟩⟩⟩
              · exact ⟨wanted_free rfl, .inr ⟨by decide, fun wx hst => gp_load (.tmp 53) rfl (show a.eval (.tmp 53) = (.pointer (some ⟨r.lb, k * 2 + 1, none⟩)) from hk.slot 53 (by kernel_rfl)) (v := (.slice (some y) n1 n2)) ((fun (q : After _) => load_at (fun w => by kernel_rfl) (E1.out q)) ⟨wx, (hst (by kernel_rfl)).1⟩) ⟨rfl, rfl⟩⟩⟩
              · exact ⟨wanted_free rfl, .inr ⟨by decide, fun wx hst => gp_index (.tmp 45) (.tmp 46) rfl (show a.eval (.tmp 45) = (.slice (some ⟨r.lb, 0, none⟩) D.C.length c) from hk.slot 45 (by kernel_rfl)) (show a.eval (.tmp 46) = (.int .i64 (k : Int)) from hk.slot 46 (by kernel_rfl)) (v := (.pointer (some ⟨r.lb, k * 2, none⟩))) (EX.out wx) ⟨rfl, rfl⟩⟩⟩
              · exact ⟨wanted_free rfl, .inr ⟨by decide, fun wx hst => gp_field (.tmp 55) rfl (show a.eval (.tmp 55) = (.pointer (some ⟨r.lb, k * 2, none⟩)) from hk.slot 55 (by kernel_rfl)) (v := (.pointer (some ⟨r.lb, k * 2, none⟩))) (fun w => by kernel_rfl) ⟨rfl, rfl⟩⟩⟩
              · refine ⟨wanted_free rfl, .inl ⟨rfl, fun wx hst => ?_⟩⟩
                refine gp_store (.tmp 56) (.tmp 54) rfl (show a.eval (.tmp 56) = (.pointer (some ⟨r.lb, k * 2, none⟩)) from hk.slot 56 (by kernel_rfl)) (show a.eval (.tmp 54) = (.slice (some y) n1 n2) from hk.slot 54 (by kernel_rfl)) (EST.out wx hst).choose_spec.1 ⟨(EST.out wx hst).choose_spec.2, trivial⟩
            intro a wz hfin hsame hall
            have he := act_same hsame [42, 43, 44, 45, 46, 47, 48, 49, 50, 51, 52, 53, 54, 55, 56] (by kernel_rfl)
            simp only [List.foldl_cons, List.foldl_nil] at he
            generalize a.eval (.tmp 42) = y42 at he
            generalize a.eval (.tmp 43) = y43 at he
            generalize a.eval (.tmp 44) = y44 at he
            generalize a.eval (.tmp 45) = y45 at he
            generalize a.eval (.tmp 46) = y46 at he
            generalize a.eval (.tmp 47) = y47 at he
            generalize a.eval (.tmp 48) = y48 at he
            generalize a.eval (.tmp 49) = y49 at he
            generalize a.eval (.tmp 50) = y50 at he
            generalize a.eval (.tmp 51) = y51 at he
            generalize a.eval (.tmp 52) = y52 at he
            generalize a.eval (.tmp 53) = y53 at he
            generalize a.eval (.tmp 54) = y54 at he
            generalize a.eval (.tmp 55) = y55 at he
            generalize a.eval (.tmp 56) = y56 at he
            simp only [put_lit] at he
            dsimp only [List.set_cons_zero, List.set_cons_succ] at he
            subst he
            clear hsame hall
            obtain ⟨hfh, hfs⟩ := hfin
            have HZ := Lib.hid (HLL.out wz hfh hfs rfl)
            have HZS := Lib.hid (HI.out.2.trans (hfs.less (fun _ _ hk => hk.2)))
            have hx := EX.out
            obtain ⟨c0, _⟩ := HZ.out.cells
            rw [HL1L.out] at c0
            have e1 := (HZ.out.elem k (by rw [HL1L.out]; exact hlt)).2
            have ff2 := fun j => HZ.out.held.free j
            generalize (L1[k]'(by rw [HL1L.out]; exact hlt)) = z at e1
            generalize Value.slice z.ka z.k.length z.kc = zz at e1
            clear hfh hfs
            go_wp2_with fail
            obtain ⟨L2, hl2, hr2, hs2⟩ := HX.out wz L1 HZ.out HZS.out HL1L.out
            go_roundw
            case rel => exact ⟨k + 1, L2, hlt, by go_num, by rw [HN.out]; go_num, hl2, hr2, hs2⟩
            case measure => simp [intOf]; omega
          | false =>
            have ff2 := fun j => HI.out.1.held.free j
            go_wp2_with fail
            obtain ⟨L2, hl2, hr2, hs2⟩ := HX.out wr L HI.out.1 HI.out.2 HL.out
            go_roundw
            case rel => exact ⟨k + 1, L2, hlt, by go_num, by rw [HN.out]; go_num, hl2, hr2, hs2⟩
            case measure => simp [intOf]; omega
        · have HB : Hid (b = false) := by rw [Hid, hb.out, bitQ]; simp [List.getD, hb8]
          have hb0 := HB.out
          subst hb0
          generalize l.length = ll at *
          have ff2 := fun j => HI.out.1.held.free j
          go_wp2_with fail
          obtain ⟨L2, hl2, hr2, hs2⟩ := HX.out wr L HI.out.1 HI.out.2 HL.out
          go_roundw
          case rel => exact ⟨k + 1, L2, hlt, by go_num, by rw [HN.out]; go_num, hl2, hr2, hs2⟩
          case measure => simp [intOf]; omega
    · have HE : Hid (midD (bitQ l) D k = spillD (bitQ l) D) := by rw [Hid, show k = D.C.length by omega, midD_end]
      rw [HE.out] at HI
      obtain ⟨_, d1, d2, d3, _⟩ := HI.out.1.cells
      go_wp2_with fail
      go_end0
      have hs3 : Save (· ≠ r.b) wr (((wr.setCell ⟨r.b, 1, none⟩ (.bool true)).setCell ⟨r.b, 2, none⟩ (.int .i64 0)).setCell ⟨r.b, 3, none⟩ (.slice none 0 0)) := (Save.set.trans Save.set).trans Save.set
      refine ⟨rfl, ⟨L, c, none, 0, HI.out.1.turn hs3 rfl rfl (fallD_ok l D HH.out.ok) (setCell_in _ (setCell_in _ (setCell_in _ HI.out.1.box))) (Row.nil_ _) (fun g hg => by simp [Go.Cit.blk] at hg)⟩, HI.out.2.trans (hs3.less (fun _ _ hk => hk.1))⟩
end Go.Proofs.Ytofagofpeedfcaa
