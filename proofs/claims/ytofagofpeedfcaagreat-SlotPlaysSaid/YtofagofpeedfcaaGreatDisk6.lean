/- disk.Disk's Write: walked. -/
import Derived.Test.YtofagofpeedfcaaGreatDisk5
import Derived.Laws.Cover3
namespace Go.Proofs.YtofagofpeedfcaaGreat
open Go Go.RowKit Go.Cit

theorem gp_s2p {P : Program} {w : World} {o : Oper} {ρ : Operand → Value} {post : Value → World → Prop} {T E : TypeId} {x : Operand} (m : Nat) (h : o.op = .sliceToArrayPointer T x) (hT : P.underlying T = some (.array m E)) {a : Option Addr} {n c : Nat} (hx : ρ x = .slice a n c) (hn : m ≤ n) (hp : post (.pointer a) w) : GivesP P post ((execOp ρ o).run P w) := by
  refine gp_run (v := .pointer a) (w' := w) ?_ hp
  unfold execOp; rw [h]; dsimp only; rw [hx, Sem.run_bind, run_arrayAt w T _ m a n c hT hn]; rfl
theorem gp_mapUpdate {P : Program} {w : World} {o : Oper} {ρ : Operand → Value} {post : Value → World → Prop} {T : TypeId} (x y z : Operand) (h : o.op = .mapUpdate T x y z) {p q v : Value} {w' : World} (hx : ρ x = p) (hy : ρ y = q) (hz : ρ z = v) (hr : (Instr.mapUpdate T p q v).run P w = .ok () w') (hp : post undef w') : GivesP P post ((execOp ρ o).run P w) := by
  refine gp_skip (w' := w') ?_ hp
  unfold execOp
  simp only [h, hx, hy, hz, Sem.run_bind, hr, Result.andThen, Sem.run_pure]
/-- A row of 64 bytes, loaded whole. -/
theorem load_secR {w : World} {a : Option Addr} {t : List UInt8} {c : Nat} (r : Row w a t c) (ht : t.length = 64) :
    (Instr.loadAt 91 (.pointer a)).run Tryz.prog w = .ok (.agg (t.map vb).toArray) w := by
  obtain ⟨b, o, rfl⟩ := r.spot (by intro h0; simp [h0] at ht)
  have := run_loadVar_mid (P := Tryz.prog) w b o 91 (t.map vb) _ (fun j v hv => by
    have hj : j < t.length := by simpa using (List.getElem?_eq_some_iff.1 hv).1
    have := r.cell j hj
    simp only [ad] at this
    rw [this]
    simpa [hj] using hv) Tryz.underlying91 rfl (by rw [List.length_map, ht]; kernel_rfl)
  simp only [Instr.loadAt, Instr.sureAddr, Sem.run_bind, Sem.run_pure, Result.andThen, this]
/-- A sector is put into the cache. -/
def putD (i : Nat) (r : List UInt8) (D : Dk) : Dk := { D with C := D.C.set i (some r) }
theorem putD_ok {D : Dk} (h : D.Ok) (i : Nat) {r : List UInt8} (hr : r.length = 64) : (putD i r D).Ok := by
  refine ⟨h.sec, fun x hx => ?_, by show (D.C.set i (some r)).length = _; rw [List.length_set]; exact h.len, h.few, h.pos, h.left, h.stay⟩
  rcases List.mem_or_eq_of_mem_set hx with hx | hx
  · exact h.cac x hx
  · injection hx with hx; rw [hx]; exact hr
def dw1 (p : Pl) (_ _ _ : Nat) (a : Option Addr) (l : List UInt8) (c i : Nat) : Nat → Value
  | 3 => (.pointer (some ⟨p.b, 0, none⟩))
  | 4 => (.pointer (some ⟨p.b, 0, none⟩))
  | 5 => (.pointer (some ⟨p.b, 2, none⟩))
  | 6 => (.map (some p.mb))
  | 7 => (.int .i64 (i : Int))
  | 8 => (.slice a 64 c)
  | 9 => (.pointer a)
  | 10 => (.agg (l.map vb).toArray)
  | _ => undef
def dw1o (_ : Pl) (b1 b2 b3 : Nat) (_ : Option Addr) (_ : List UInt8) (_ _ : Nat) : Nat → Value
  | 0 => (.pointer (some ⟨b1, 0, none⟩))
  | 1 => (.pointer (some ⟨b2, 0, none⟩))
  | 2 => (.pointer (some ⟨b3, 0, none⟩))
  | _ => undef

set_option maxRecDepth 100000 in
set_option maxHeartbeats 1000000 in
theorem write1_calls (w : World) (p : Pl) (D : Dk) (h : DiskAt w p D) (b1 b2 b3 : Nat) (a : Option Addr) (l : List UInt8) (c : Nat) (i : Nat) (hi : i < D.S.length) (hl : l.length = 64) (hr : Row w a l c)
    (h1 : w.cell? ⟨b1, 0, none⟩ = some (.slice a 64 c)) (h2 : w.cell? ⟨b2, 0, none⟩ = some (.pointer (some ⟨p.b, 0, none⟩))) (h3 : w.cell? ⟨b3, 0, none⟩ = some (.int .i64 (i : Int))) :
    Calls Tryz.prog 59 #[.pointer (some ⟨b1, 0, none⟩), .pointer (some ⟨b2, 0, none⟩), .pointer (some ⟨b3, 0, none⟩)] w fun e w' => e = .returned (.tuple #[]) ∧ DiskAt w' p (putD i l D) ∧ Save p.Off w w' := by
  have C1 : Hid (∀ q : After w, q.to.cell? ⟨b1, 0, none⟩ = some (.slice a 64 c)) := fun q => After.cell h1 q
  have C2 : Hid (∀ q : After w, q.to.cell? ⟨b2, 0, none⟩ = some (.pointer (some ⟨p.b, 0, none⟩))) := fun q => After.cell h2 q
  have C3 : Hid (∀ q : After w, q.to.cell? ⟨b3, 0, none⟩ = some (.int .i64 (i : Int))) := fun q => After.cell h3 q
  have CM2 : Hid (∀ q : After w, q.to.cell? ⟨p.b, 2, none⟩ = some (.map (some p.mb))) := fun q => After.cell h.cells.2.2.1 q
  have CR : Hid (∀ q : After w, (Instr.loadAt 91 (.pointer a)).run Tryz.prog q.to = .ok (.agg (l.map vb).toArray) q.to) := fun q => load_secR (hr.stay q.bel) hl
  have HW := Lib.hid h
  have ST : Hid (∀ wx, Cit.Alike w wx → ∃ w', (Instr.mapUpdate 37 (.map (some p.mb)) (.int .i64 (i : Int)) (.agg (l.map vb).toArray)).run Tryz.prog wx = .ok () w' ∧ CM w' p.mb (D.C.set i (some l)) ∧ Save (· ≠ p.mb) w w') := fun wx hx => by
    obtain ⟨w', g1, g2, g3⟩ := run_cm_update (P := Tryz.prog) (w := wx) Tryz.underlying37 Tryz.underlying3 (HW.out.map.stay hx.1) (i := i) (by rw [HW.out.ok.len]; exact hi) l
    exact ⟨w', g1, g2, (Save.of hx.1).trans g3⟩
  clear h hr h1 h2 h3
  go_enter Tryz.func59, Tryz.ntmps59
  go_upto_region 0 with fail
  refine wp_region_once (dw1 p b1 b2 b3 a l c i) (dw1o p b1 b2 b3 a l c i) [0, 1, 2] 8 (fun wx => CM wx p.mb (D.C.set i (some l)) ∧ Save (· ≠ p.mb) w wx) (by kernel_rfl) (by kernel_rfl) (by decide) ⟨rfl, rfl, rfl, trivial⟩ ?_ ?_
  · refine opsAll_cons ?_ (opsAll_cons ?_ (opsAll_cons ?_ (opsAll_cons ?_ (opsAll_cons ?_ (opsAll_cons ?_ (opsAll_cons ?_ (opsAll_cons ?_ (opsAll_cons ?_ opsAll_nil))))))))
    all_goals intro a_ hk
    · exact ⟨wanted_free rfl, .inr ⟨by decide, fun wx hst => gp_load (.tmp 1) rfl (show a_.eval (.tmp 1) = (.pointer (some ⟨b2, 0, none⟩)) from hk.old 1 (by kernel_rfl)) (v := (.pointer (some ⟨p.b, 0, none⟩))) ((fun (q : After _) => load_at (fun w => by kernel_rfl) (C2.out q)) ⟨wx, (hst (by kernel_rfl)).1⟩) ⟨rfl, rfl⟩⟩⟩
    · exact ⟨wanted_free rfl, .inr ⟨by decide, fun wx hst => gp_nil (.tmp 3) rfl (show a_.eval (.tmp 3) = (.pointer (some ⟨p.b, 0, none⟩)) from hk.slot 3 (by kernel_rfl)) ⟨rfl, rfl⟩⟩⟩
    · exact ⟨wanted_free rfl, .inr ⟨by decide, fun wx hst => gp_field (.tmp 4) rfl (show a_.eval (.tmp 4) = (.pointer (some ⟨p.b, 0, none⟩)) from hk.slot 4 (by kernel_rfl)) (v := (.pointer (some ⟨p.b, 2, none⟩))) (fun w => by kernel_rfl) ⟨rfl, rfl⟩⟩⟩
    · exact ⟨wanted_free rfl, .inr ⟨by decide, fun wx hst => gp_load (.tmp 5) rfl (show a_.eval (.tmp 5) = (.pointer (some ⟨p.b, 2, none⟩)) from hk.slot 5 (by kernel_rfl)) (v := (.map (some p.mb))) ((fun (q : After _) => load_at (fun w => by kernel_rfl) (CM2.out q)) ⟨wx, (hst (by kernel_rfl)).1⟩) ⟨rfl, rfl⟩⟩⟩
    · exact ⟨wanted_free rfl, .inr ⟨by decide, fun wx hst => gp_load (.tmp 2) rfl (show a_.eval (.tmp 2) = (.pointer (some ⟨b3, 0, none⟩)) from hk.old 2 (by kernel_rfl)) (v := (.int .i64 (i : Int))) ((fun (q : After _) => load_at (fun w => by kernel_rfl) (C3.out q)) ⟨wx, (hst (by kernel_rfl)).1⟩) ⟨rfl, rfl⟩⟩⟩
    · exact ⟨wanted_free rfl, .inr ⟨by decide, fun wx hst => gp_load (.tmp 0) rfl (show a_.eval (.tmp 0) = (.pointer (some ⟨b1, 0, none⟩)) from hk.old 0 (by kernel_rfl)) (v := (.slice a 64 c)) ((fun (q : After _) => load_at (fun w => by kernel_rfl) (C1.out q)) ⟨wx, (hst (by kernel_rfl)).1⟩) ⟨rfl, rfl⟩⟩⟩
    · exact ⟨wanted_free rfl, .inr ⟨by decide, fun wx hst => gp_s2p 64 rfl Tryz.underlying91 (show a_.eval (.tmp 8) = (.slice a 64 c) from hk.slot 8 (by kernel_rfl)) (Nat.le_refl _) ⟨rfl, rfl⟩⟩⟩
    · exact ⟨wanted_free rfl, .inr ⟨by decide, fun wx hst => gp_load (.tmp 9) rfl (show a_.eval (.tmp 9) = (.pointer a) from hk.slot 9 (by kernel_rfl)) (v := (.agg (l.map vb).toArray)) ((fun (q : After _) => CR.out q) ⟨wx, (hst (by kernel_rfl)).1⟩) ⟨rfl, rfl⟩⟩⟩
    · refine ⟨wanted_free rfl, .inl ⟨rfl, fun wx hst => ?_⟩⟩
      refine gp_mapUpdate (.tmp 6) (.tmp 7) (.tmp 10) rfl (show a_.eval (.tmp 6) = (.map (some p.mb)) from hk.slot 6 (by kernel_rfl)) (show a_.eval (.tmp 7) = (.int .i64 (i : Int)) from hk.slot 7 (by kernel_rfl)) (show a_.eval (.tmp 10) = (.agg (l.map vb).toArray) from hk.slot 10 (by kernel_rfl)) (ST.out wx hst).choose_spec.1 ⟨(ST.out wx hst).choose_spec.2, trivial⟩
  intro a_ wz hfin hsame hall
  have he := act_same hsame [3, 4, 5, 6, 7, 8, 9, 10] (by kernel_rfl)
  simp only [List.foldl_cons, List.foldl_nil] at he
  generalize a_.eval (.tmp 3) = y3 at he
  generalize a_.eval (.tmp 4) = y4 at he
  generalize a_.eval (.tmp 5) = y5 at he
  generalize a_.eval (.tmp 6) = y6 at he
  generalize a_.eval (.tmp 7) = y7 at he
  generalize a_.eval (.tmp 8) = y8 at he
  generalize a_.eval (.tmp 9) = y9 at he
  generalize a_.eval (.tmp 10) = y10 at he
  simp only [put_lit] at he
  dsimp only [List.set_cons_zero, List.set_cons_succ] at he
  subst he
  clear hsame hall
  go_end0
  obtain ⟨hm, hs⟩ := hfin
  have hlt := HW.out.lt
  refine ⟨rfl, ?_, hs.less (fun _ _ hk => hk.2.2)⟩
  obtain ⟨a0, c0, g1, g2, g3⟩ := HW.out.box
  refine ⟨⟨a0, c0, (hs.block _ hlt.1 HW.out.ne2).trans g1, g2.save hs (fun g hg => (g3 g hg).1.2.2), fun g hg => ⟨(g3 g hg).1, (g3 g hg).2.1, Nat.lt_of_lt_of_le (g3 g hg).2.2 hs.size⟩⟩, (hs.block _ hlt.2.1 HW.out.ne3).trans HW.out.sec, hm, HW.out.ne1, HW.out.ne2, HW.out.ne3, fun k hk => Nat.lt_of_lt_of_le (HW.out.xlt k hk) hs.size, putD_ok HW.out.ok i hl⟩
def writeE (D : Dk) (i : Int) (n : Nat) : Int := if D.up = false then 60 else if ¬ (0 ≤ i ∧ i < D.S.length) then 61 else if n ≠ 64 then 2 else if D.left = 1 then 60 else 0
def writeT (D : Dk) (i : Int) (l : List UInt8) : Dk := if D.up = false ∨ ¬ (0 ≤ i ∧ i < D.S.length) ∨ l.length ≠ 64 then D else if D.left = 1 then fallD D.stay D else putD i.toNat l (tickD D)
set_option maxRecDepth 100000 in
set_option maxHeartbeats 1000000 in
theorem write_calls (w : World) (p : Pl) (D : Dk) (h : DiskAt w p D) (i : Int) (a : Option Addr) (l : List UInt8) (c : Nat) (hr : Row w a l c) (ha : l ≠ [] → ∀ g, Go.Cit.blk a = some g → p.Off g) :
    Calls Tryz.prog 35 #[.pointer (some ⟨p.b, 0, none⟩), .int .i64 i, .slice a l.length c] w fun e w' => e = .returned (.int .i64 (writeE D i l.length)) ∧ DiskAt w' p (writeT D i l) ∧ Save p.Off w w' := by
  obtain ⟨w1, hw1⟩ : ∃ w1, w1 = ((w.alloc (.cells #[.pointer (some ⟨p.b, 0, none⟩)] 24)).alloc (.cells #[.int .i64 i] 3)).alloc (.cells #[.slice a l.length c] 31) := ⟨_, rfl⟩
  have B1 : Below w.heap.size w w1 := by rw [hw1]; exact (((Below.refl _ w).alloc (Nat.le_refl _) _).alloc (by simp) _).alloc (by simp; omega) _
  have x0 : w1.cell? ⟨w.heap.size, 0, none⟩ = some (.pointer (some ⟨p.b, 0, none⟩)) := by
    rw [hw1]; refine keepA _ (keepA _ ?_); rw [World.cell?, heap_alloc_new]; rfl
  have x1 : w1.cell? ⟨w.heap.size + 1, 0, none⟩ = some (.int .i64 i) := by
    rw [hw1]; refine keepA _ ?_
    rw [World.cell?, show w.heap.size + 1 = (w.alloc (.cells #[.pointer (some ⟨p.b, 0, none⟩)] 24)).heap.size by simp, heap_alloc_new]; rfl
  have x2 : w1.cell? ⟨w.heap.size + 1 + 1, 0, none⟩ = some (.slice a l.length c) := by
    rw [hw1]
    rw [World.cell?, show w.heap.size + 1 + 1 = ((w.alloc (.cells #[.pointer (some ⟨p.b, 0, none⟩)] 24)).alloc (.cells #[.int .i64 i] 3)).heap.size by simp, heap_alloc_new]; rfl
  have hsz : w1.heap.size = w.heap.size + 3 := by rw [hw1]; simp
  have h1 := h.stay B1
  have hlt := h.lt
  have hrd := ready_calls w1 p D h1
  have hh := dhas_calls w1 p D h1 i
  have HB1 : Hid (Save p.Off w w1) := Save.of B1
  have H1 := Lib.hid h1
  have HR1 := Lib.hid (hr.stay B1)
  have hll := hr.le
  have hlm := hr.top
  unfold maxLen at hlm
  clear h h1 hr B1
  by_cases hu : D.up = true
  · rw [hu] at hrd
    by_cases hi : 0 ≤ i ∧ i < D.S.length
    · rw [decide_eq_true hi] at hh
      by_cases h64 : l.length = 64
      · have X0 := Lib.hid x0
        have X1 := Lib.hid x1
        have X2 := Lib.hid x2
        rw [h64] at x2
        obtain ⟨k, rfl⟩ : ∃ k : Nat, i = (k : Int) := ⟨i.toNat, by omega⟩
        have hk : k < D.S.length := by omega
        by_cases hl : D.left = 1
        · have e1 : writeE D k l.length = 60 := by rw [writeE, if_neg (by rw [hu]; simp), if_neg (by simpa using hi), if_neg (by simpa using h64), if_pos hl]
          have e2 : writeT D k l = fallD D.stay D := by rw [writeT, if_neg (by rw [hu]; simp [hk, h64]), if_pos hl]
          rw [e1, e2]
          have HO := Lib.hid (operate_falls w1 p D H1.out hl)
          clear e1 e2 hl hi hlt ha
          rw [h64]
          rw [h64] at hw1
          go_enter Tryz.func35, Tryz.ntmps35
          go_wp2_with fail
          rw [← hw1]
          clear hw1
          refine (hrd).mono ?_
          rintro e w2 ⟨rfl, rfl⟩
          go_wp2_with fail
          refine (hh).mono ?_
          rintro e w2 ⟨rfl, rfl⟩
          go_wp2_with fail
          refine (HO.out _).mono ?_
          rintro e w3 ⟨rfl, hD, hs⟩
          go_wp2_with fail
          go_ret
          exact ⟨rfl, hD, HB1.out.trans hs⟩
        · have e1 : writeE D k l.length = 0 := by rw [writeE, if_neg (by rw [hu]; simp), if_neg (by simpa using hi), if_neg (by simpa using h64), if_neg hl]
          have e2 : writeT D k l = putD k l (tickD D) := by rw [writeT, if_neg (by rw [hu]; simp [hk, h64]), if_neg hl, Int.toNat_natCast]
          rw [e1, e2]
          have HO := Lib.hid (operate_does w1 p D (putD k l (tickD D)) H1.out hl 59 #[.pointer (some ⟨w.heap.size + 1 + 1, 0, none⟩), .pointer (some ⟨w.heap.size, 0, none⟩), .pointer (some ⟨w.heap.size + 1, 0, none⟩)] (enters_of Tryz.func59 (by kernel_rfl) rfl)
            (fun W hW hs => write1_calls W p (tickD D) hW (w.heap.size + 1 + 1) w.heap.size (w.heap.size + 1) a l c k hk h64 (HR1.out.save' hs (fun hne g hg => (ha hne g hg).1))
              (by rw [hs.cell (by show w.heap.size + 1 + 1 < _; omega) (by show w.heap.size + 1 + 1 ≠ p.b; omega), X2.out, h64])
              (by rw [hs.cell (by show w.heap.size < _; omega) (by show w.heap.size ≠ p.b; omega), X0.out])
              (by rw [hs.cell (by show w.heap.size + 1 < _; omega) (by show w.heap.size + 1 ≠ p.b; omega), X1.out])))
          clear e1 e2 hl hi hlt ha
          rw [h64]
          rw [h64] at hw1
          go_enter Tryz.func35, Tryz.ntmps35
          go_wp2_with fail
          rw [← hw1]
          clear hw1
          refine (hrd).mono ?_
          rintro e w2 ⟨rfl, rfl⟩
          go_wp2_with fail
          refine (hh).mono ?_
          rintro e w2 ⟨rfl, rfl⟩
          go_wp2_with fail
          refine (HO.out).mono ?_
          rintro e w3 ⟨rfl, hD, hs⟩
          go_wp2_with fail
          go_ret
          exact ⟨rfl, hD, HB1.out.trans hs⟩
      · have e1 : writeE D i l.length = 2 := by rw [writeE, if_neg (by rw [hu]; simp), if_neg (by simpa using hi), if_pos h64]
        have e2 : writeT D i l = D := by rw [writeT, if_pos (.inr (.inr h64))]
        rw [e1, e2]
        generalize l.length = n at *
        have t1 : ((n : Int) == 64) = false := by simp; omega
        have t2 : ¬ (n : Int) = 64 := by omega
        clear e1 e2 hi hlt ha HR1
        go_enter Tryz.func35, Tryz.ntmps35
        go_wp2_with fail
        rw [← hw1]
        clear hw1
        refine (hrd).mono ?_
        rintro e w2 ⟨rfl, rfl⟩
        go_wp2_with fail
        refine (hh).mono ?_
        rintro e w2 ⟨rfl, rfl⟩
        go_wp2_with fail
        go_ret
        exact ⟨rfl, H1.out, HB1.out⟩
    · rw [decide_eq_false hi] at hh
      have e1 : writeE D i l.length = 61 := by rw [writeE, if_neg (by rw [hu]; simp), if_pos hi]
      have e2 : writeT D i l = D := by rw [writeT, if_pos (.inr (.inl hi))]
      rw [e1, e2]
      clear e1 e2 hi hlt ha HR1
      go_enter Tryz.func35, Tryz.ntmps35
      go_wp2_with fail
      rw [← hw1]
      clear hw1
      refine (hrd).mono ?_
      rintro e w2 ⟨rfl, rfl⟩
      go_wp2_with fail
      refine (hh).mono ?_
      rintro e w2 ⟨rfl, rfl⟩
      go_wp2_with fail
      go_ret
      exact ⟨rfl, H1.out, HB1.out⟩
  · have hu : D.up = false := by simpa using hu
    rw [hu] at hrd
    have e1 : writeE D i l.length = 60 := by rw [writeE, if_pos hu]
    have e2 : writeT D i l = D := by rw [writeT, if_pos (.inl hu)]
    rw [e1, e2]
    clear e1 e2 hlt ha HR1 hh
    go_enter Tryz.func35, Tryz.ntmps35
    go_wp2_with fail
    rw [← hw1]
    clear hw1
    refine (hrd).mono ?_
    rintro e w2 ⟨rfl, rfl⟩
    go_wp2_with fail
    go_ret
    exact ⟨rfl, H1.out, HB1.out⟩
set_option maxRecDepth 100000 in
theorem write_nil (w : World) (v : Value) (h : NoDisk w v) (i : Int) (a : Option Addr) (n c : Nat) : Calls Tryz.prog 35 #[v, .int .i64 i, .slice a n c] w fun e w' => e = .returned (.int .i64 1) ∧ Below w.heap.size w w' := by
  obtain ⟨w1, hw1⟩ : ∃ w1, w1 = ((w.alloc (.cells #[v] 24)).alloc (.cells #[.int .i64 i] 3)).alloc (.cells #[.slice a n c] 31) := ⟨_, rfl⟩
  have B1 : Below w.heap.size w w1 := by rw [hw1]; exact (((Below.refl _ w).alloc (Nat.le_refl _) _).alloc (by simp) _).alloc (by simp; omega) _
  have x0 : w1.cell? ⟨w.heap.size, 0, none⟩ = some v := by
    rw [hw1]; refine keepA _ (keepA _ ?_); rw [World.cell?, heap_alloc_new]; rfl
  have hr := ready_nil w1 v (h.stay B1)
  have HB := Lib.hid B1
  clear B1
  rcases h with rfl | ⟨b, rfl, c2⟩
  all_goals
    go_enter Tryz.func35, Tryz.ntmps35
    go_wp2_with fail
    rw [← hw1]
    clear hw1
    refine (hr).mono ?_
    rintro e w2 ⟨rfl, rfl⟩
    go_wp2_with fail
    go_ret
    exact ⟨rfl, HB.out⟩
theorem writeT_ok {D : Dk} (h : D.Ok) (i : Int) (l : List UInt8) : (writeT D i l).Ok := by
  unfold writeT
  split
  · exact h
  · rename_i hn
    split
    · exact fallD_ok _ _ h
    · refine putD_ok (D := tickD D) (h.same (D' := tickD D) rfl rfl ?_ h.stay) _ ?_
      · show D.left - 1 ≤ _; have := h.left; omega
      · exact Classical.not_not.1 (fun e => hn (.inr (.inr e)))
end Go.Proofs.YtofagofpeedfcaaGreat
