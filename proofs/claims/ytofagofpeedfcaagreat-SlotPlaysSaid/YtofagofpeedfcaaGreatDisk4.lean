/- disk.Disk's fall$1, all, spill, fall: walked. -/
import Derived.Test.YtofagofpeedfcaaGreatDisk3
import Derived.Test.YtofagofpeedfcaaGreatGg
import Derived.Test.YtofagofpeedfcaaGreatGe
namespace Go.Proofs.YtofagofpeedfcaaGreat
open Go Go.RowKit Go.Cit

/-- Bit n of some bytes. -/
def bitQ (l : List UInt8) (n : Nat) : Bool := decide ((l.getD (n / 8) 0).toNat / 2 ^ (n % 8) % 2 = 1)
theorem bit_and (x : UInt8) (k : Nat) : (bits BinOp.and IntKind.u8 ((x.toNat : Int) / 2 ^ k) 1 == 1) = decide (x.toNat / 2 ^ k % 2 = 1) := by
  have e : ((x.toNat : Int) / 2 ^ k) = ((x.toNat / 2 ^ k : Nat) : Int) := by rw [Int.natCast_ediv, Int.natCast_pow]; rfl
  rw [e]
  have hlt : x.toNat / 2 ^ k < 256 := Nat.lt_of_le_of_lt (Nat.div_le_self _ _) (b_lt x)
  generalize x.toNat / 2 ^ k = y at hlt
  have : ∀ y : Fin 256, (bits BinOp.and IntKind.u8 ((y.1 : Nat) : Int) 1 == 1) = decide (y.1 % 2 = 1) := by decide +kernel
  exact this ⟨y, hlt⟩
set_option maxRecDepth 100000 in
theorem all_calls (w : World) (v : Value) (n : Int) : Calls Tryz.prog 48 #[v, .int .i64 n] w fun e w' => e = .returned (.bool true) ∧ w' = w := by
  go_enter Tryz.func48, Tryz.ntmps48
  go_wp2_with fail
  go_ret
  exact ⟨rfl, rfl⟩
set_option maxRecDepth 100000 in
theorem fall1_calls (w : World) (B : Nat) (a : Option Addr) (l : List UInt8) (c : Nat) (hB : w.cell? ⟨B, 0, none⟩ = some (.slice a l.length c)) (h : Row w a l c) (n : Nat) (hn : n ≤ 100000) :
    Calls Tryz.prog 71 #[.int .i64 (n : Int), .pointer (some ⟨B, 0, none⟩)] w fun e w' => e = .returned (.bool (bitQ l n)) ∧ w' = w := by
  obtain ⟨R, HR⟩ : ∃ R, Hid (R = bitQ l n) := ⟨_, rfl⟩
  rw [← HR.out]
  have hll := h.le
  have hlm := h.top
  unfold maxLen at hlm
  have q1 : (n : Int).tdiv 8 = ((n / 8 : Nat) : Int) := by
    rw [Int.tdiv_eq_ediv_of_nonneg (by omega)]; omega
  have q2 : (n : Int).tmod 8 = ((n % 8 : Nat) : Int) := by
    rw [Int.tmod_eq_emod_of_nonneg (by omega)]; omega
  by_cases hlt : n / 8 < l.length
  · have i0 := h.index bt.slice bt.sz (n / 8) hlt
    have e0 := h.cell (n / 8) hlt
    rw [show ((n / 8 : Nat) : Int) = (n : Int) / 8 by omega] at i0
    have HF : Hid (R = decide ((l[n / 8]).toNat / 2 ^ (n % 8) % 2 = 1)) := by rw [Hid, HR.out, bitQ]; simp [List.getD, hlt]
    generalize l[n / 8] = x at e0 HF
    generalize l.length = N at *
    clear h
    go_enter Tryz.func71, Tryz.ntmps71
    go_wp2_with fail
    go_ret
    refine ⟨ret_bool ?_, rfl⟩
    rw [HF.out]
    exact bit_and x (n % 8)
  · have HF : Hid (R = false) := by rw [Hid, HR.out, bitQ]; simp [List.getD, hlt]
    generalize l.length = N at *
    clear h
    go_enter Tryz.func71, Tryz.ntmps71
    go_wp2_with fail
    go_ret
    exact ⟨ret_bool HF.out.symm, rfl⟩

theorem gp_lookup {P : Program} {w : World} {o : Oper} {ρ : Operand → Value} {post : Value → World → Prop} {T : TypeId} {ok : Bool} (x y : Operand) (h : o.op = .lookup T x y ok) {p q v : Value} (hx : ρ x = p) (hy : ρ y = q) (hr : (Instr.lookup T p q ok).run P w = .ok v w) (hp : post v w) : GivesP P post ((execOp ρ o).run P w) := by
  refine gp_run (w' := w) (v := v) ?_ hp
  unfold execOp
  simp only [h, hx, hy, Sem.run_bind, hr, Result.andThen, Sem.run_pure]
theorem secCells_flat (S : List (List UInt8)) : secCells S = (S.flatten.map vb).toArray := by
  show (S.flatMap (List.map vb)).toArray = _
  rw [List.flatMap_def, List.map_flatten]
theorem flat_len : ∀ S : List (List UInt8), (∀ r ∈ S, r.length = 64) → S.flatten.length = S.length * 64
  | [], _ => rfl
  | r :: S, h => by
    rw [List.flatten_cons, List.length_append, flat_len S (fun x hx => h x (List.mem_cons_of_mem _ hx)), h r (List.mem_cons_self ..), List.length_cons, Nat.succ_mul]; omega
theorem set_split {α : Type} (S : List α) (i : Nat) (hi : i < S.length) (r : α) : S.set i r = S.take i ++ r :: S.drop (i + 1) := by
  rw [List.set_eq_take_append_cons_drop, if_pos hi]
/-- A sector is stored. -/
theorem sec_stored {w : World} {sb : Nat} {S : List (List UInt8)} {E : TypeId} (h : w.heap[sb]? = some (.cells (secCells S) E (0, 0))) (hS : ∀ r ∈ S, r.length = 64) (i : Nat) (hi : i < S.length) (r : List UInt8) (hr : r.length = 64) :
    ∃ w', (Instr.storeAt 91 (.pointer (some ⟨sb, i * 64, none⟩)) (.agg (r.map vb).toArray)).run Tryz.prog w = .ok () w' ∧ w'.heap[sb]? = some (.cells (secCells (S.set i r)) E (0, 0)) ∧ Save (· ≠ sb) w w' := by
  have e1 : S.flatten = (S.take i).flatten ++ ((S.drop i).flatten) := by rw [← List.flatten_append, List.take_append_drop]
  have hA : (S.take i).flatten.length = i * 64 := by
    rw [flat_len _ (fun x hx => hS x (List.mem_of_mem_take hx)), List.length_take, Nat.min_eq_left (Nat.le_of_lt hi)]
  have hR : (S.drop i).flatten = S[i] ++ (S.drop (i + 1)).flatten := by rw [List.drop_eq_getElem_cons hi, List.flatten_cons]
  have hsi : S[i].length = 64 := hS _ (List.getElem_mem hi)
  have h1 : ArrB E w sb ((S.take i).flatten ++ (S.drop i).flatten) := by
    show w.heap[sb]? = _
    rw [h, secCells_flat, e1]
  obtain ⟨h2, h3⟩ := arrB_copy r _ _ w h1 (by rw [hR, List.length_append, hsi, hr]; omega)
  rw [hA] at h2 h3
  have hfin : secCells (S.set i r) = (((S.take i).flatten ++ r ++ (S.drop i).flatten.drop r.length).map vb).toArray := by
    rw [secCells_flat, set_split S i hi, List.flatten_append, List.flatten_cons, hR, hr, ← hsi, List.drop_left, List.append_assoc]
  refine ⟨_, ?_, ?_, h3⟩
  · have hth : w.there sb (i * 64) (r.map vb).toArray.size := by
      intro j hj
      have hj : j < 64 := by simpa [hr] using hj
      constructor
      · rw [World.cell?, h]
        show ((if (none : Option Nat).isSome = true then none else (secCells S)[i * 64 + j]?)).isSome = true
        simp only [List.getElem?_toArray]
        rw [flatGet64 S hS i j hi hj]
        simp [hsi, hj]
      · rw [World.frozen?, h]; simp
    have := run_storeVar_mid (P := Tryz.prog) w sb (i * 64) 91 (r.map vb).toArray hth (by rw [List.size_toArray, List.length_map, hr]; kernel_rfl) (all_vb r)
    simp only [Instr.storeAt, Instr.sureAddr, Sem.run_bind, Sem.run_pure, Result.andThen, this]
  · rw [hfin]; exact h2

/-- What is flushed of a cache: what stays of its first k. -/
def spillK (q : Nat → Bool) (D : Dk) (k : Nat) : List (List UInt8) := ((dirtyL D.C).take k).zipIdx.foldl (fun S x => if q x.2 then S.set x.1 ((D.C[x.1]?.join).getD []) else S) D.S
theorem spillK_zero (q : Nat → Bool) (D : Dk) : spillK q D 0 = D.S := rfl
theorem spillK_succ (q : Nat → Bool) (D : Dk) {k : Nat} (hk : k < (dirtyL D.C).length) {i : Nat} (hi : (dirtyL D.C)[k] = i) {r : List UInt8} (hr : D.C[i]? = some (some r)) : spillK q D (k + 1) = if q k then (spillK q D k).set i r else spillK q D k := by
  subst hi
  unfold spillK
  rw [List.take_succ_eq_append_getElem hk, List.zipIdx_append, List.foldl_append]
  simp only [List.zipIdx_cons, List.zipIdx_nil, List.foldl_cons, List.foldl_nil, List.length_take, Nat.min_eq_left (Nat.le_of_lt hk), Nat.zero_add]
  rw [hr]; rfl
theorem spillK_ok (q : Nat → Bool) (D : Dk) (h : D.Ok) (k : Nat) : (spillK q D k).length = D.S.length ∧ ∀ r ∈ spillK q D k, r.length = 64 := by
  unfold spillK
  have hm : ∀ x ∈ ((dirtyL D.C).take k).zipIdx, ∃ r, D.C[x.1]? = some (some r) := fun x hx => by
    have h1 := List.mem_zipIdx hx
    have : x.1 ∈ dirtyL D.C := List.mem_of_mem_take (by rw [h1.2.2]; exact List.getElem_mem _)
    exact mem_dirtyL.1 this
  generalize ((dirtyL D.C).take k).zipIdx = L at hm
  have : ∀ (S : List (List UInt8)), S.length = D.S.length → (∀ r ∈ S, r.length = 64) → (L.foldl (fun S x => if q x.2 then S.set x.1 ((D.C[x.1]?.join).getD []) else S) S).length = D.S.length ∧ ∀ r ∈ L.foldl (fun S x => if q x.2 then S.set x.1 ((D.C[x.1]?.join).getD []) else S) S, r.length = 64 := by
    induction L with
    | nil => intro S h1 h2; exact ⟨h1, h2⟩
    | cons x L ih =>
      intro S h1 h2
      rw [List.foldl_cons]
      obtain ⟨r, hr⟩ := hm x (List.mem_cons_self ..)
      refine ih (fun y hy => hm y (List.mem_cons_of_mem _ hy)) _ ?_ ?_
      · split
        · rw [List.length_set]; exact h1
        · exact h1
      · split
        · intro y hy
          rcases List.mem_or_eq_of_mem_set hy with hy | rfl
          · exact h2 y hy
          · rw [hr]; exact h.cac r (List.mem_of_getElem? hr)
        · exact h2
  exact this D.S rfl h.sec
/-- Behind a spill. -/
def spillD (q : Nat → Bool) (D : Dk) : Dk := { D with S := spillK q D (dirtyL D.C).length, C := List.replicate D.C.length none }
theorem spillD_ok (q : Nat → Bool) (D : Dk) (h : D.Ok) : (spillD q D).Ok := by
  obtain ⟨h1, h2⟩ := spillK_ok q D h (dirtyL D.C).length
  refine ⟨h2, fun r hr => ?_, ?_, ?_, ?_, h.left, h.stay⟩
  · have := List.eq_of_mem_replicate hr; simp at this
  · show (List.replicate D.C.length none).length = (spillK q D (dirtyL D.C).length).length; rw [h1, List.length_replicate, h.len]
  · show (spillK q D (dirtyL D.C).length).length ≤ 1024; rw [h1]; exact h.few
  · show 0 < (spillK q D (dirtyL D.C).length).length; rw [h1]; exact h.pos

def sp4 (p : Pl) (N i : Nat) (r : List UInt8) : Nat → Value
  | 17 => (.pointer (some ⟨p.b, 0, none⟩))
  | 18 => (.pointer (some ⟨p.b, 0, none⟩))
  | 19 => (.pointer (some ⟨p.b, 1, none⟩))
  | 20 => (.slice (some ⟨p.sb, 0, none⟩) N N)
  | 21 => (.int .i64 (i : Int))
  | 22 => (.pointer (some ⟨p.b, 0, none⟩))
  | 23 => (.pointer (some ⟨p.b, 0, none⟩))
  | 24 => (.pointer (some ⟨p.b, 2, none⟩))
  | 25 => (.map (some p.mb))
  | 26 => (.int .i64 (i : Int))
  | 27 => (.agg (r.map vb).toArray)
  | 28 => (.pointer (some ⟨p.sb, i * 64, none⟩))
  | _ => undef
def sp4o (p : Pl) (_ i : Nat) (_ : List UInt8) : Nat → Value
  | 0 => (.pointer (some ⟨p.b, 0, none⟩))
  | 5 => (.int .i64 (i : Int))
  | _ => undef

set_option maxRecDepth 100000 in
set_option maxHeartbeats 2000000 in
theorem spill_calls (w : World) (p : Pl) (D : Dk) (h : DiskAt w p D) (g : Nat) (bd lb : Array Value) (eg : ∀ args w, (callFunc g args).run Tryz.prog w = .ok (.enter g args) w) (q : Nat → Bool)
    (hq : ∀ (W : World) (n : Nat), n < D.S.length → Save (· ≠ p.sb) w W → Calls Tryz.prog g (bd ++ #[.int .i64 (n : Int)] ++ lb) W fun e w' => e = .returned (.bool (q n)) ∧ w' = W) :
    Calls Tryz.prog 47 #[.pointer (some ⟨p.b, 0, none⟩), .func (.func g) bd lb] w fun e w' => e = .returned (.tuple #[]) ∧ DiskAt w' p (spillD q D) ∧ Save (fun k => k ≠ p.sb ∧ k ≠ p.mb) w w' := by
  have hD := dirty_calls w p D h
  have HH := Lib.hid h
  have HQ := Lib.hid hq
  clear h hq
  go_enter Tryz.func47, Tryz.ntmps47
  go_wp2_with fail
  refine (hD).mono ?_
  rintro e w2 ⟨a, c, rfl, hO, hb2⟩
  have H2 := Lib.hid (HH.out.stay hb2)
  have HN : Hid ((dirtyI D.C).length = (dirtyL D.C).length) := by rw [Hid, dirtyI, List.length_map]
  have HV := Lib.hid (hO.vec (fun _ => rfl))
  have HB := Lib.hid hb2
  have HLT := Lib.hid H2.out.lt
  have HLE : Hid ((dirtyL D.C).length ≤ D.S.length) := by rw [Hid]; have := dirtyL_len D.C; rw [HH.out.ok.len] at this; exact this
  have HO2 : Hid (∀ g, Go.Cit.blk a = some g → g ≠ p.sb) := fun g hg e => by
    have h1 := hO.blk_ge hg
    have h2 := HH.out.lt.2.1
    omega
  have hle9 : (dirtyI D.C).length ≤ 1024 := by have := HN.out; have := HLE.out; have := HH.out.ok.few; omega
  clear hO hb2 hD
  go_wp2_with fail
  go_loopw [9] (fun i wr => ∃ k : Nat, i = .int .i64 (k : Int) ∧ k ≤ (dirtyI D.C).length ∧ Hid (wr.heap[p.sb]? = some (.cells (secCells (spillK q D k)) 91 (0, 0)) ∧ Save (· ≠ p.sb) w2 wr)) (fun i _ => (dirtyI D.C).length - (intOf i).toNat)
  case atStart => exact ⟨0, rfl, Nat.zero_le _, by rw [Hid, spillK_zero]; exact ⟨H2.out.sec, Save.refl _ _⟩⟩
  case round =>
    obtain ⟨k, rfl, hk, HK⟩ := hrel
    by_cases hlt : k < (dirtyI D.C).length
    · have hlt2 : k < (dirtyL D.C).length := by rw [← HN.out]; exact hlt
      obtain ⟨i, hi⟩ : ∃ i, Hid (i = (dirtyL D.C)[k]) := ⟨(dirtyL D.C)[k], rfl⟩
      have HVr := HV.out.save (fun _ => rfl) HK.out.2 (fun _ g hg => HO2.out g hg)
      have e0 := HVr.cell1 k hlt
      have i0 := HVr.index etZ k hlt
      rw [Nat.mul_one] at i0
      have ei : (dirtyI D.C)[k] = (i : Int) := by rw [hi.out]; simp [dirtyI]
      rw [ei] at e0
      obtain ⟨r, hr⟩ := mem_dirtyL.1 (show i ∈ dirtyL D.C by rw [hi.out]; exact List.getElem_mem _)
      have HS := Lib.hid (spillK_succ q D hlt2 hi.out.symm hr)
      have HI : Hid (i < D.S.length) := by rw [Hid, ← HH.out.ok.len]; exact (List.getElem?_eq_some_iff.1 hr).1
      have hc := HQ.out wr k (Nat.lt_of_lt_of_le hlt2 HLE.out) ((Save.of HB.out).trans HK.out.2)
      have HR := Lib.hid hr
      clear ei hr HVr
      cases hqk : q k with
      | false =>
        rw [hqk] at hc
        rw [hqk] at HS
        have HE : Hid (spillK q D (k + 1) = spillK q D k) := by rw [Hid, HS.out]; rfl
        clear hqk HS
        go_wp2_with fail
        refine (hc).mono ?_
        rintro e w3 ⟨rfl, rfl⟩
        go_wp2_with fail
        go_roundw
        case rel => exact ⟨k + 1, by go_num, hlt, by rw [Hid, HE.out]; exact HK.out⟩
        case measure => simp [intOf]; omega
      | true =>
        rw [hqk] at hc
        rw [hqk] at HS
        have HE : Hid (spillK q D (k + 1) = (spillK q D k).set i r) := by rw [Hid, HS.out]; rfl
        clear hqk HS
        obtain ⟨hl9, hs9⟩ := spillK_ok q D HH.out.ok k
        have hr64 : r.length = 64 := HH.out.ok.cac r (List.mem_of_getElem? HR.out)
        obtain ⟨S, hS⟩ : ∃ S, Hid (S = spillK q D k) := ⟨_, rfl⟩
        rw [← hS.out] at hl9 hs9 HK HE
        have C1 : Hid (∀ q : After wr, q.to.cell? ⟨p.b, 1, none⟩ = some (.slice (some ⟨p.sb, 0, none⟩) D.S.length D.S.length)) := fun q => After.cell ((HK.out.2.cell HLT.out.1 H2.out.ne1).trans H2.out.cells.2.1) q
        have C2 : Hid (∀ q : After wr, q.to.cell? ⟨p.b, 2, none⟩ = some (.map (some p.mb))) := fun q => After.cell ((HK.out.2.cell HLT.out.1 H2.out.ne1).trans H2.out.cells.2.2.1) q
        have IX : Hid (∀ w, _) := fun w => sec_index p.sb D.S.length i D.S.length HI.out w
        have HKM : Hid (∀ q : After wr, (Instr.lookup 37 (.map (some p.mb)) (.int .i64 (i : Int)) false).run Tryz.prog q.to = .ok (.agg (r.map vb).toArray) q.to) := fun q => by
          have hm := (H2.out.map.save HK.out.2 (Ne.symm H2.out.ne3)).stay q.bel
          have := run_cm_hit (P := Tryz.prog) (w := q.to) Tryz.underlying37 Tryz.underlying3 hm HR.out false
          simpa using this
        have ST : Hid (∀ wx, Cit.Alike wr wx → ∃ w', (Instr.storeAt 91 (.pointer (some ⟨p.sb, i * 64, none⟩)) (.agg (r.map vb).toArray)).run Tryz.prog wx = .ok () w' ∧ w'.heap[p.sb]? = some (.cells (secCells (S.set i r)) 91 (0, 0)) ∧ Save (· ≠ p.sb) wr w') := fun wx hx => by
          obtain ⟨w', h1, h2, h3⟩ := sec_stored (w := wx) (sb := p.sb) (S := S) (by rw [hx.2]; exact HK.out.1) hs9 i (by rw [hl9]; exact HI.out) r hr64
          exact ⟨w', h1, h2, (Save.of hx.1).trans h3⟩
        generalize hNN : D.S.length = N at C1 IX
        clear hl9 hs9
        go_wp2_with fail
        refine (hc).mono ?_
        rintro e w3 ⟨rfl, rfl⟩
        go_upto_region 4 with fail
        refine wp_region_once (sp4 p N i r) (sp4o p N i r) [0, 5] 12 (fun wx => wx.heap[p.sb]? = some (.cells (secCells (S.set i r)) 91 (0, 0)) ∧ Save (· ≠ p.sb) w3 wx) (by kernel_rfl) (by kernel_rfl) (by decide) ⟨rfl, rfl, trivial⟩ ?_ ?_
        · refine opsAll_cons ?_ (opsAll_cons ?_ (opsAll_cons ?_ (opsAll_cons ?_ (opsAll_cons ?_ (opsAll_cons ?_ (opsAll_cons ?_ (opsAll_cons ?_ (opsAll_cons ?_ (opsAll_cons ?_ (opsAll_cons ?_ (opsAll_cons ?_ (opsAll_cons ?_ opsAll_nil))))))))))))
          all_goals intro a hk
          · exact ⟨wanted_free rfl, .inr ⟨by decide, fun wx hst => gp_move (.tmp 0) rfl ⟨rfl, (show a.eval (.tmp 0) = (.pointer (some ⟨p.b, 0, none⟩)) from hk.old 0 (by kernel_rfl))⟩⟩⟩
          · exact ⟨wanted_free rfl, .inr ⟨by decide, fun wx hst => gp_nil (.tmp 17) rfl (show a.eval (.tmp 17) = (.pointer (some ⟨p.b, 0, none⟩)) from hk.slot 17 (by kernel_rfl)) ⟨rfl, rfl⟩⟩⟩
          · exact ⟨wanted_free rfl, .inr ⟨by decide, fun wx hst => gp_field (.tmp 18) rfl (show a.eval (.tmp 18) = (.pointer (some ⟨p.b, 0, none⟩)) from hk.slot 18 (by kernel_rfl)) (v := (.pointer (some ⟨p.b, 1, none⟩))) (fun w => by kernel_rfl) ⟨rfl, rfl⟩⟩⟩
          · exact ⟨wanted_free rfl, .inr ⟨by decide, fun wx hst => gp_load (.tmp 19) rfl (show a.eval (.tmp 19) = (.pointer (some ⟨p.b, 1, none⟩)) from hk.slot 19 (by kernel_rfl)) (v := (.slice (some ⟨p.sb, 0, none⟩) N N)) ((fun (q : After _) => load_at (fun w => by kernel_rfl) (C1.out q)) ⟨wx, (hst (by kernel_rfl)).1⟩) ⟨rfl, rfl⟩⟩⟩
          · exact ⟨wanted_free rfl, .inr ⟨by decide, fun wx hst => gp_move (.tmp 5) rfl ⟨rfl, (show a.eval (.tmp 5) = (.int .i64 (i : Int)) from hk.old 5 (by kernel_rfl))⟩⟩⟩
          · exact ⟨wanted_free rfl, .inr ⟨by decide, fun wx hst => gp_move (.tmp 0) rfl ⟨rfl, (show a.eval (.tmp 0) = (.pointer (some ⟨p.b, 0, none⟩)) from hk.old 0 (by kernel_rfl))⟩⟩⟩
          · exact ⟨wanted_free rfl, .inr ⟨by decide, fun wx hst => gp_nil (.tmp 22) rfl (show a.eval (.tmp 22) = (.pointer (some ⟨p.b, 0, none⟩)) from hk.slot 22 (by kernel_rfl)) ⟨rfl, rfl⟩⟩⟩
          · exact ⟨wanted_free rfl, .inr ⟨by decide, fun wx hst => gp_field (.tmp 23) rfl (show a.eval (.tmp 23) = (.pointer (some ⟨p.b, 0, none⟩)) from hk.slot 23 (by kernel_rfl)) (v := (.pointer (some ⟨p.b, 2, none⟩))) (fun w => by kernel_rfl) ⟨rfl, rfl⟩⟩⟩
          · exact ⟨wanted_free rfl, .inr ⟨by decide, fun wx hst => gp_load (.tmp 24) rfl (show a.eval (.tmp 24) = (.pointer (some ⟨p.b, 2, none⟩)) from hk.slot 24 (by kernel_rfl)) (v := (.map (some p.mb))) ((fun (q : After _) => load_at (fun w => by kernel_rfl) (C2.out q)) ⟨wx, (hst (by kernel_rfl)).1⟩) ⟨rfl, rfl⟩⟩⟩
          · exact ⟨wanted_free rfl, .inr ⟨by decide, fun wx hst => gp_move (.tmp 5) rfl ⟨rfl, (show a.eval (.tmp 5) = (.int .i64 (i : Int)) from hk.old 5 (by kernel_rfl))⟩⟩⟩
          · exact ⟨wanted_free rfl, .inr ⟨by decide, fun wx hst => gp_lookup (.tmp 25) (.tmp 26) rfl (show a.eval (.tmp 25) = (.map (some p.mb)) from hk.slot 25 (by kernel_rfl)) (show a.eval (.tmp 26) = (.int .i64 (i : Int)) from hk.slot 26 (by kernel_rfl)) (v := .agg (r.map vb).toArray) ((fun (q : After _) => HKM.out q) ⟨wx, (hst (by kernel_rfl)).1⟩) ⟨rfl, rfl⟩⟩⟩
          · exact ⟨wanted_free rfl, .inr ⟨by decide, fun wx hst => gp_index (.tmp 20) (.tmp 21) rfl (show a.eval (.tmp 20) = (.slice (some ⟨p.sb, 0, none⟩) N N) from hk.slot 20 (by kernel_rfl)) (show a.eval (.tmp 21) = (.int .i64 (i : Int)) from hk.slot 21 (by kernel_rfl)) (v := (.pointer (some ⟨p.sb, i * 64, none⟩))) (IX.out wx) ⟨rfl, rfl⟩⟩⟩
          · refine ⟨wanted_free rfl, .inl ⟨rfl, fun wx hst => ?_⟩⟩
            refine gp_store (.tmp 28) (.tmp 27) rfl (show a.eval (.tmp 28) = (.pointer (some ⟨p.sb, i * 64, none⟩)) from hk.slot 28 (by kernel_rfl)) (show a.eval (.tmp 27) = (.agg (r.map vb).toArray) from hk.slot 27 (by kernel_rfl)) (ST.out wx hst).choose_spec.1 ⟨(ST.out wx hst).choose_spec.2, trivial⟩
        intro a wz hfin hsame hall
        have he := act_same hsame [17, 18, 19, 20, 21, 22, 23, 24, 25, 26, 27, 28] (by kernel_rfl)
        simp only [List.foldl_cons, List.foldl_nil] at he
        generalize a.eval (.tmp 17) = y17 at he
        generalize a.eval (.tmp 18) = y18 at he
        generalize a.eval (.tmp 19) = y19 at he
        generalize a.eval (.tmp 20) = y20 at he
        generalize a.eval (.tmp 21) = y21 at he
        generalize a.eval (.tmp 22) = y22 at he
        generalize a.eval (.tmp 23) = y23 at he
        generalize a.eval (.tmp 24) = y24 at he
        generalize a.eval (.tmp 25) = y25 at he
        generalize a.eval (.tmp 26) = y26 at he
        generalize a.eval (.tmp 27) = y27 at he
        generalize a.eval (.tmp 28) = y28 at he
        simp only [put_lit] at he
        dsimp only [List.set_cons_zero, List.set_cons_succ] at he
        subst he
        clear hsame hall
        have HF := Lib.hid hfin
        clear hfin
        go_wp2_with fail
        go_roundw
        case rel => exact ⟨k + 1, by go_num, hlt, by rw [Hid, HE.out]; exact ⟨HF.out.1, HK.out.2.trans HF.out.2⟩⟩
        case measure => simp [intOf]; omega
    · have HE : Hid (k = (dirtyL D.C).length) := by rw [Hid, ← HN.out]; omega
      have C2 := (HK.out.2.cell HLT.out.1 H2.out.ne1).trans H2.out.cells.2.2.1
      obtain ⟨w9, h9, hm9, hs9⟩ := run_cm_clear (P := Tryz.prog) (ty := 0) Tryz.underlying37 (H2.out.map.save HK.out.2 (Ne.symm H2.out.ne3))
      have HM := Lib.hid hm9
      have HSS := Lib.hid hs9
      have HC9 := Lib.hid h9
      clear hm9 hs9
      go_wp2_with fail
      go_end0
      have HS0 : Save (fun k => k ≠ p.sb ∧ k ≠ p.mb) w w9 := ((Save.of HB.out).trans (HK.out.2.less (fun _ _ h => h.1))).trans (HSS.out.less (fun _ _ h => h.2))
      refine ⟨rfl, ?_, HS0⟩
      obtain ⟨a0, c0, g1, g2, g3⟩ := HH.out.box
      have hl := HH.out.lt
      obtain ⟨o1, o2⟩ := spillK_ok q D HH.out.ok (dirtyL D.C).length
      refine ⟨⟨a0, c0, ?_, g2.save HS0 (fun g hg => ⟨(g3 g hg).1.2.1, (g3 g hg).1.2.2⟩), fun g hg => ⟨(g3 g hg).1, (g3 g hg).2.1, Nat.lt_of_lt_of_le (g3 g hg).2.2 HS0.size⟩⟩, ?_, HM.out, HH.out.ne1, HH.out.ne2, HH.out.ne3, fun k hk => Nat.lt_of_lt_of_le (HH.out.xlt k hk) HS0.size, spillD_ok q D HH.out.ok⟩
      · rw [HS0.block _ hl.1 ⟨HH.out.ne1, HH.out.ne2⟩, g1]
        show some (Obj.cells #[.bool D.up, .slice (some ⟨p.sb, 0, none⟩) D.S.length D.S.length, _, _, _] _ _) = some (Obj.cells #[.bool D.up, .slice (some ⟨p.sb, 0, none⟩) (spillK q D (dirtyL D.C).length).length (spillK q D (dirtyL D.C).length).length, _, _, _] _ _)
        rw [o1]
        rfl
      · rw [HSS.out.block _ (Nat.lt_of_lt_of_le hl.2.1 (Nat.le_trans HB.out.size HK.out.2.size)) HH.out.ne3, HK.out.1, HE.out]
        rfl
end Go.Proofs.YtofagofpeedfcaaGreat
