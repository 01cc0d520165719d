/- Chapter 6's law: fill, made, do: walked. -/
import Derived.Test.YtofagofpeedfcaaAct6
import Derived.Test.YtofagofpeedfcaaActD6
import Derived.Test.YtofagofpeedfcaaLine
namespace Go.Proofs.Ytofagofpeedfcaa
open Go Go.RowKit Go.Cit

theorem blk_eq {g g' off : Nat} (h : Go.Cit.blk (some ⟨g', off, none⟩) = some g) : g' = g := by simpa [Go.Cit.blk] using h
set_option maxRecDepth 100000 in
theorem fill_calls (w : World) (x : UInt8) : Calls Try.prog 32 #[vb x] w fun e w' => ∃ a, e = .returned (.slice a 64 64) ∧ Cit.Own 5 w.heap.size w' a (List.replicate 64 x) 64 ∧ Below w.heap.size w w' := by
  go_enter Try.func32, Try.ntmps32
  go_wp2_with ((with_reducible refine wp_make_bytes (o := ⟨some 5, .makeSlice _ _ _, _, _, _, _⟩) bt (.const (.int .i64 64)) (.const (.int .i64 64)) (by with_unfolding_all rfl) (by with_unfolding_all rfl) 64 .i64 .i64 (by with_unfolding_all rfl) (by with_unfolding_all rfl) rfl (by decide) ?_); intro w2 hO hg hsz; have HO := Lib.hid hO; have HB := Lib.hid (grown_below hg (Nat.le_refl _) (fun k hk => by simp at hk)); clear hO hg hsz)
  go_loopw [4] (fun i wr => ∃ (k : Nat) (m : List UInt8), k ≤ 64 ∧ i = .int .i64 (k : Int) ∧ Hid (m.length = 64) ∧ Hid ((∀ j, j < k → m[j]? = some x) ∧ Cit.Own 5 w.heap.size wr (some ⟨w.heap.size, 0, none⟩) m 64 ∧ Below w.heap.size w wr)) (fun i _ => 64 - (intOf i).toNat)
  case atStart => exact ⟨0, List.replicate 64 0, by omega, rfl, by rw [Hid]; simp, fun j hj => by omega, HO.out, HB.out⟩
  case round =>
    obtain ⟨k, m, hk, rfl, HML, HMM⟩ := hrel
    by_cases hlt : k < 64
    · have hkm : k < m.length := by rw [HML.out]; exact hlt
      have ij := HMM.out.2.1.isRow.index bt.slice bt.sz k hkm
      have ej := HMM.out.2.1.isRow.cell k hkm
      have fj := HMM.out.2.1.frozen k hkm
      rw [HML.out] at ij
      obtain ⟨st1, st2⟩ := HMM.out.2.1.stored k hkm x
      have st3 : Below w.heap.size wr (wr.setCell (ad (some ⟨w.heap.size, 0, none⟩) k) (vb x)) := grown_below st2 HMM.out.2.2.size (fun g hg => (HMM.out.2.1.blk_ge hg).1)
      have HST : Hid ((∀ j, j < k + 1 → (m.set k x)[j]? = some x) ∧ Cit.Own 5 w.heap.size (wr.setCell (ad (some ⟨w.heap.size, 0, none⟩) k) (vb x)) (some ⟨w.heap.size, 0, none⟩) (m.set k x) 64 ∧ Below w.heap.size w (wr.setCell (ad (some ⟨w.heap.size, 0, none⟩) k) (vb x))) := by
        refine ⟨fun j hj => ?_, st1, HMM.out.2.2.trans st3⟩
        by_cases e : k = j
        · subst e; rw [List.getElem?_set_self hkm]
        · rw [List.getElem?_set_ne e]; exact HMM.out.1 j (by omega)
      generalize m[k] = y at ej
      have HLS : Hid ((m.set k x).length = 64) := by rw [Hid, List.length_set]; exact HML.out
      clear st1 st2 st3 hkm
      go_wp2_with fail
      go_roundw
      case rel => exact ⟨k + 1, _, hlt, by go_num, HLS, HST⟩
      case measure => simp [intOf]; omega
    · have HE : m = List.replicate 64 x := by
        apply List.ext_getElem?
        intro j
        by_cases hj : j < 64
        · rw [HMM.out.1 j (by omega), List.getElem?_replicate, if_pos hj]
        · rw [List.getElem?_eq_none (by rw [HML.out]; omega), List.getElem?_eq_none (by simp; omega)]
      rw [HE] at HMM
      go_wp2_with fail
      go_ret
      exact ⟨_, rfl, HMM.out.2.1, HMM.out.2.2⟩
set_option maxRecDepth 100000 in
theorem made_bad (w : World) (n : Int) (a : Option Addr) (L : List Ac) (c : Nat) (h : Acts w a L c) (hb : n < 1 ∨ 12 < n ∨ 6000 < totA L) : Calls Try.prog 28 #[.int .i64 n, .slice a L.length c] w fun e w' => e = .returned (.tuple #[.pointer none, .bool false]) ∧ w' = w := by
  have hgr := great6_calls w a L c h
  clear h
  by_cases h1 : n < 1
  · clear hgr hb
    go_enter Try.func28, Try.ntmps28
    go_wp2_with fail
    go_ret2
    exact ⟨rfl, rfl⟩
  by_cases h2 : 12 < n
  · clear hgr hb
    go_enter Try.func28, Try.ntmps28
    go_wp2_with fail
    go_ret2
    exact ⟨rfl, rfl⟩
  · rw [decide_eq_true (by omega)] at hgr
    clear hb
    go_enter Try.func28, Try.ntmps28
    go_wp2_with fail
    refine (hgr).mono ?_
    rintro e w2 ⟨rfl, rfl⟩
    go_wp2_with fail
    go_ret2
    exact ⟨rfl, rfl⟩
set_option maxRecDepth 100000 in
theorem made_calls (w : World) (n : Nat) (a : Option Addr) (L : List Ac) (c : Nat) (h : Acts w a L c) (h1 : 1 ≤ n) (h12 : n ≤ 12) (hT : totA L ≤ 6000) : Calls Try.prog 28 #[.int .i64 (n : Int), .slice a L.length c] w fun e w' =>
    ∃ p : Pl, e = .returned (.tuple #[.pointer (some ⟨p.b, 0, none⟩), .bool true]) ∧ DiskAt w' p (newD n) ∧ w'.cell? ⟨p.b, 4, none⟩ = some (.slice none 0 0) ∧ (w.heap.size ≤ p.b ∧ w.heap.size ≤ p.sb ∧ w.heap.size ≤ p.mb) ∧ Below w.heap.size w w' := by
  have hgr := great6_calls w a L c h
  rw [decide_eq_false (by omega)] at hgr
  have hnew := new_calls w n (by omega) (by omega)
  have m1 : ¬ (n : Int) < 1 := by omega
  have m2 : ¬ 12 < (n : Int) := by omega
  clear h hT
  go_enter Try.func28, Try.ntmps28
  go_wp2_with fail
  refine (hgr).mono ?_
  rintro e w2 ⟨rfl, rfl⟩
  go_wp2_with fail
  refine (hnew).mono ?_
  rintro e w3 ⟨p, rfl, hD, hc4, hpl, hb3⟩
  have HQ := Lib.hid (And.intro hD (And.intro hc4 (And.intro hpl hb3)))
  clear hD hc4 hpl hb3 hgr
  go_wp2_with fail
  go_ret2
  exact ⟨p, rfl, HQ.out.1, HQ.out.2.1, HQ.out.2.2.1, HQ.out.2.2.2⟩
def actE (D : Dk) (x : Ac) : Int :=
  if x.kind = 0 ∨ x.kind = 1 ∨ x.kind = 2 then writeE D x.n (secL x.l).length else if x.kind = 3 ∨ x.kind = 4 then flushE D else if x.kind = 5 then crashE D
  else if x.kind = 6 then armE D x.n else if x.kind = 7 ∨ x.kind = 8 then startE D else 0
def doSt (w : World) (p : Pl) (D' : Dk) (S : List UInt8) (E : Int) : List Value → World → Prop
  | [], wx => Cit.Alike w wx
  | [v1], wx => ∃ a c, v1 = .slice a S.length c ∧ Cit.Own 5 w.heap.size wx a S c ∧ Below w.heap.size w wx
  | [_, v2], wx => v2 = .int .i64 E ∧ DiskAt wx p D' ∧ Save p.Off w wx
  | _ :: _ :: _ :: _, _ => True
theorem do_box (w0 : World) (p : Pl) (D : Dk) (x : Ac) (h : DiskAt w0 p D) (hx : x.At w0) (w1 : World) (hw1 : w1 = w0.alloc (.cells x.cs.toArray 24)) :
    (w1.cell? ⟨w0.heap.size, 0, none⟩ = some (.int .i64 x.kind) ∧ w1.cell? ⟨w0.heap.size, 1, none⟩ = some (.int .i64 x.n) ∧ w1.cell? ⟨w0.heap.size, 2, none⟩ = some (.slice x.a x.l.length x.c)) ∧ DiskAt w1 p D ∧ x.At w1 ∧ Save p.Off w0 w1 ∧ w1.heap.size = w0.heap.size + 1 := by
  have B1 : Below w0.heap.size w0 w1 := by rw [hw1]; exact (Below.refl _ w0).alloc (Nat.le_refl _) _
  have x1 : w1.heap[w0.heap.size]? = some (.cells x.cs.toArray 24 (0, 0)) := by rw [hw1]; exact heap_alloc_new _ _
  refine ⟨⟨?_, ?_, ?_⟩, h.stay B1, hx.stay B1, Save.of B1, by rw [hw1]; simp⟩ <;> (rw [World.cell?, x1]; rfl)
theorem doSt_v2 {w : World} {p : Pl} {D' : Dk} {S : List UInt8} {E : Int} {vs : List Value} {wx : World} (h : doSt w p D' S E vs wx) (h1 : 1 < vs.length) (hl : vs.length ≤ 2) : vs[1]? = some (.int .i64 E) := by
  match vs, h, h1, hl with
  | [_, _], h, _, _ => rw [← h.1]; rfl
  | _ :: _ :: _ :: _, _, _, hl => simp at hl
def do5 (p : Pl) (Bx : Nat) (x : Ac) (E : Int) : Nat → Value
  | 11 => (.pointer (some ⟨p.b, 0, none⟩))
  | 12 => (.pointer (some ⟨Bx, 1, none⟩))
  | 13 => (.int .i64 x.n)
  | 14 => (.pointer (some ⟨Bx, 2, none⟩))
  | 15 => (.slice x.a x.l.length x.c)
  | 4 => (.int .i64 E)
  | _ => undef
def do5o (p : Pl) (Bx : Nat) (_ : Ac) (_ : Int) : Nat → Value
  | 0 => (.pointer (some ⟨p.b, 0, none⟩))
  | 3 => (.pointer (some ⟨Bx, 0, none⟩))
  | _ => undef

set_option maxRecDepth 100000 in
set_option maxHeartbeats 4000000 in
theorem do_write (w0 : World) (p : Pl) (D : Dk) (x : Ac) (h : DiskAt w0 p D) (hx : x.At w0) (hl : x.l.length ≤ 6000) (hk : x.kind = 0 ∨ x.kind = 1 ∨ x.kind = 2) :
    Calls Try.prog 29 #[.pointer (some ⟨p.b, 0, none⟩), .agg x.cs.toArray] w0 fun e w' => e = .returned (.int .i64 (writeE D x.n (secL x.l).length)) ∧ DiskAt w' p (writeT D x.n (secL x.l)) ∧ Save p.Off w0 w' := by
  obtain ⟨w1, hw1⟩ : ∃ w1, w1 = w0.alloc (.cells x.cs.toArray 24) := ⟨_, rfl⟩
  obtain ⟨⟨c0, c1, c2⟩, h1, hx1, hs1, sz⟩ := do_box w0 p D x h hx w1 hw1
  obtain ⟨Bx, hBx⟩ : ∃ B, Hid (B = w0.heap.size) := ⟨_, rfl⟩
  rw [← hBx.out] at c0 c1 c2 sz
  obtain ⟨S, hS⟩ : ∃ S, Hid (S = secL x.l) := ⟨_, rfl⟩
  obtain ⟨E, hE⟩ : ∃ E, Hid (E = writeE D x.n S.length) := ⟨_, rfl⟩
  rw [← hS.out, ← hE.out]
  have HD1 := Lib.hid h1
  have HS1 := Lib.hid hs1
  have ON1 : Hid (∀ wx, Below w1.heap.size w1 wx → wx.cell? ⟨Bx, 1, none⟩ = some (.int .i64 x.n)) := fun wx hb => keep hb c1
  have ON2 : Hid (∀ wx, Below w1.heap.size w1 wx → wx.cell? ⟨Bx, 2, none⟩ = some (.slice x.a x.l.length x.c)) := fun wx hb => keep hb c2
  have NBE : Hid (∀ vs wx, doSt w1 p (writeT D x.n S) S E vs wx → vs.length ≤ 1 → Below w1.heap.size w1 wx) := fun vs wx h hl => by
    match vs, h, hl with
    | [], h, _ => exact h.1
    | [_], h, _ => obtain ⟨_, _, _, _, hb⟩ := h; exact hb
    | _ :: _ :: _, _, hl => simp at hl
  have N5 : Hid (∀ vs wx, doSt w1 p (writeT D x.n S) S E vs wx → vs.length = 0 → Calls Try.prog 31 #[.slice x.a x.l.length x.c] wx fun e w' => ∃ v, e = .returned v ∧ doSt w1 p (writeT D x.n S) S E (vs ++ [v]) w') := fun vs wx hst hvs => by
    obtain rfl : vs = [] := List.eq_nil_of_length_eq_zero hvs
    refine (sector_calls wx x.a x.l x.c (hx1.row.stay hst.1) (by omega)).mono ?_
    rintro e w' ⟨a', c', rfl, hO, hb⟩
    have hs : wx.heap.size = w1.heap.size := by rw [hst.2]
    rw [← hS.out] at hO ⊢
    rw [hs] at hO hb
    exact ⟨_, rfl, a', c', rfl, hO, hst.1.trans hb⟩
  have N6 : Hid (∀ vs wx, doSt w1 p (writeT D x.n S) S E vs wx → vs.length = 1 → ∃ a9 c8, vs = [.slice a9 S.length c8] ∧ Calls Try.prog 14 #[.pointer (some ⟨p.b, 0, none⟩), .int .i64 x.n, .slice a9 S.length c8] wx fun e w' => ∃ v, e = .returned v ∧ doSt w1 p (writeT D x.n S) S E (vs ++ [v]) w') := fun vs wx hst hvs => by
    match vs, hst, hvs with
    | [v], hst, _ =>
      obtain ⟨a9, c8, rfl, hO, hb⟩ := hst
      have hl1 := h1.lt
      refine ⟨a9, c8, rfl, (write_calls wx p D (h1.stay hb) x.n a9 S c8 hO.isRow (fun _ g hg => ⟨by have := (hO.blk_ge hg).1; omega, by have := (hO.blk_ge hg).1; omega, by have := (hO.blk_ge hg).1; omega⟩)).mono ?_⟩
      rintro e w' ⟨rfl, hD, hs⟩
      rw [← hE.out]
      exact ⟨_, rfl, rfl, hD, (Save.of hb).trans hs⟩
  clear h hx h1 hx1 hs1 sz c1 c2
  rcases hk with hk | hk | hk
  all_goals
    rw [hk] at c0
    go_enter Try.func29, Try.ntmps29
    go_upto_region 5 with fail
    rw [← hw1]
    rw [← hBx.out]
    refine wp_region_line (do5 p Bx x E) (do5o p Bx x E) [0, 3] [5, 6] (doSt w1 p (writeT D x.n S) S E) (by kernel_rfl) (by kernel_rfl) (by kernel_rfl) ⟨rfl, rfl, trivial⟩ (fun _ h => h) ?_ ?_
    · refine opsAll_cons ?_ (opsAll_cons ?_ (opsAll_cons ?_ (opsAll_cons ?_ (opsAll_cons ?_ (opsAll_cons ?_ (opsAll_cons ?_ (opsAll_cons ?_ opsAll_nil)))))))
      all_goals intro a_ vs hk
      · exact ⟨wanted_free rfl, .inr ⟨by decide, fun s1 s2 hle wx hst => gp_move (.tmp 0) rfl ⟨rfl, (show a_.eval (.tmp 0) = (.pointer (some ⟨p.b, 0, none⟩)) from hk.old 0 (by kernel_rfl))⟩⟩⟩
      · exact ⟨wanted_free rfl, .inr ⟨by decide, fun s1 s2 hle wx hst => gp_field (.tmp 3) rfl (show a_.eval (.tmp 3) = (.pointer (some ⟨Bx, 0, none⟩)) from hk.old 3 (by kernel_rfl)) (v := (.pointer (some ⟨Bx, 1, none⟩))) (fun w => by kernel_rfl) ⟨rfl, rfl⟩⟩⟩
      · exact ⟨wanted_free rfl, .inr ⟨by decide, fun s1 s2 hle wx hst => gp_load (.tmp 12) rfl (show a_.eval (.tmp 12) = (.pointer (some ⟨Bx, 1, none⟩)) from hk.slot 12 (by kernel_rfl) (by kernel_rfl)) (v := (.int .i64 x.n)) (load_at (fun w => by kernel_rfl) (ON1.out wx (NBE.out _ wx hst (s2 1 6 rfl (by kernel_rfl))))) ⟨rfl, rfl⟩⟩⟩
      · exact ⟨wanted_free rfl, .inr ⟨by decide, fun s1 s2 hle wx hst => gp_field (.tmp 3) rfl (show a_.eval (.tmp 3) = (.pointer (some ⟨Bx, 0, none⟩)) from hk.old 3 (by kernel_rfl)) (v := (.pointer (some ⟨Bx, 2, none⟩))) (fun w => by kernel_rfl) ⟨rfl, rfl⟩⟩⟩
      · exact ⟨wanted_free rfl, .inr ⟨by decide, fun s1 s2 hle wx hst => gp_load (.tmp 14) rfl (show a_.eval (.tmp 14) = (.pointer (some ⟨Bx, 2, none⟩)) from hk.slot 14 (by kernel_rfl) (by kernel_rfl)) (v := (.slice x.a x.l.length x.c)) (load_at (fun w => by kernel_rfl) (ON2.out wx (NBE.out _ wx hst (s2 1 6 rfl (by kernel_rfl))))) ⟨rfl, rfl⟩⟩⟩
      · refine ⟨wanted_free rfl, .inl ⟨0, rfl, fun hvs wx hst => ?_⟩⟩
        exact gp_call rfl rfl #[.slice x.a x.l.length x.c] (fun w => by kernel_rfl) (by simp only [List.map_toArray, List.map_cons, List.map_nil]; rw [show a_.eval (.tmp 15) = (.slice x.a x.l.length x.c) from hk.slot 15 (by kernel_rfl) (by kernel_rfl)]) (N5.out _ wx hst hvs)
      · refine ⟨wanted_free rfl, .inl ⟨1, rfl, fun hvs wx hst => ?_⟩⟩
        obtain ⟨a9, c8, rfl, hc9⟩ := N6.out vs wx hst hvs
        exact gp_call rfl rfl #[.pointer (some ⟨p.b, 0, none⟩), .int .i64 x.n, .slice a9 S.length c8] (fun w => by kernel_rfl) (by simp only [List.map_toArray, List.map_cons, List.map_nil]; rw [show a_.eval (.tmp 11) = (.pointer (some ⟨p.b, 0, none⟩)) from hk.slot 11 (by kernel_rfl) (by kernel_rfl), show a_.eval (.tmp 13) = (.int .i64 x.n) from hk.slot 13 (by kernel_rfl) (by kernel_rfl), show a_.eval (.tmp 16) = (.slice a9 S.length c8) from hk.line 0 16 _ rfl (by kernel_rfl)]) hc9
      · exact ⟨wanted_free rfl, .inr ⟨by decide, fun s1 s2 hle wx hst => gp_assign (.tmp 17) rfl ⟨rfl, (show a_.eval (.tmp 17) = (.int .i64 E) from hk.line 1 17 _ (doSt_v2 hst (s1 1 6 rfl (by kernel_rfl)) hle) (by kernel_rfl))⟩⟩⟩
    intro a_ vs wz hlen9 hfin hsame hall hline
    have he := act_same hsame [11, 12, 13, 14, 15, 16, 17, 4] (by kernel_rfl)
    simp only [List.foldl_cons, List.foldl_nil] at he
    rw [show a_.eval (.tmp 4) = (.int .i64 E) from hall 4 (by kernel_rfl) (by kernel_rfl)] at he
    generalize a_.eval (.tmp 11) = y11 at he
    generalize a_.eval (.tmp 12) = y12 at he
    generalize a_.eval (.tmp 13) = y13 at he
    generalize a_.eval (.tmp 14) = y14 at he
    generalize a_.eval (.tmp 15) = y15 at he
    generalize a_.eval (.tmp 16) = y16 at he
    generalize a_.eval (.tmp 17) = y17 at he
    simp only [put_lit] at he
    dsimp only [List.set_cons_zero, List.set_cons_succ] at he
    subst he
    clear hsame hall
    obtain ⟨hE2, hDf, hSf⟩ : (∃ v1, vs = [v1, .int .i64 E]) ∧ DiskAt wz p (writeT D x.n S) ∧ Save p.Off w1 wz := by
      match vs, hlen9, hfin with
      | [v1, v2], _, hfin => obtain ⟨rfl, h2, h3⟩ := hfin; exact ⟨⟨v1, rfl⟩, h2, h3⟩
    have HF := Lib.hid (And.intro hDf hSf)
    clear hDf hSf hfin hE2 hline
    go_wp2_with fail
    go_ret
    exact ⟨rfl, HF.out.1, HS1.out.trans HF.out.2⟩
set_option maxRecDepth 100000 in
set_option maxHeartbeats 4000000 in
theorem do_flush (w0 : World) (p : Pl) (D : Dk) (x : Ac) (h : DiskAt w0 p D) (hx : x.At w0) (hk : x.kind = 3 ∨ x.kind = 4) :
    Calls Try.prog 29 #[.pointer (some ⟨p.b, 0, none⟩), .agg x.cs.toArray] w0 fun e w' => e = .returned (.int .i64 (flushE D)) ∧ DiskAt w' p (flushT D) ∧ Save p.Off w0 w' := by
  obtain ⟨w1, hw1⟩ : ∃ w1, w1 = w0.alloc (.cells x.cs.toArray 24) := ⟨_, rfl⟩
  obtain ⟨⟨c0, _, _⟩, h1, _, hs1, _⟩ := do_box w0 p D x h hx w1 hw1
  have hf := flush_calls w1 p D h1
  have HS1 := Lib.hid hs1
  generalize flushE D = E at *
  clear h hx h1 hs1
  rcases hk with hk | hk
  all_goals
    rw [hk] at c0
    go_enter Try.func29, Try.ntmps29
    go_wp2_with fail
    rw [← hw1]
    clear hw1
    refine (hf).mono ?_
    rintro e w2 ⟨rfl, hD2, hs2⟩
    go_wp2_with fail
    go_ret
    exact ⟨rfl, hD2, HS1.out.trans hs2⟩
set_option maxRecDepth 100000 in
set_option maxHeartbeats 4000000 in
theorem do_start (w0 : World) (p : Pl) (D : Dk) (x : Ac) (h : DiskAt w0 p D) (hx : x.At w0) (hk : x.kind = 7 ∨ x.kind = 8) :
    Calls Try.prog 29 #[.pointer (some ⟨p.b, 0, none⟩), .agg x.cs.toArray] w0 fun e w' => e = .returned (.int .i64 (startE D)) ∧ DiskAt w' p (startD D) ∧ Save p.Off w0 w' := by
  obtain ⟨w1, hw1⟩ : ∃ w1, w1 = w0.alloc (.cells x.cs.toArray 24) := ⟨_, rfl⟩
  obtain ⟨⟨c0, _, _⟩, h1, _, hs1, _⟩ := do_box w0 p D x h hx w1 hw1
  have hf := start_calls w1 p D h1
  have HS1 := Lib.hid hs1
  generalize startE D = E at *
  clear h hx h1 hs1
  rcases hk with hk | hk
  all_goals
    rw [hk] at c0
    go_enter Try.func29, Try.ntmps29
    go_wp2_with fail
    rw [← hw1]
    clear hw1
    refine (hf).mono ?_
    rintro e w2 ⟨rfl, hD2, hs2⟩
    go_wp2_with fail
    go_ret
    exact ⟨rfl, hD2, HS1.out.trans hs2⟩
set_option maxRecDepth 100000 in
set_option maxHeartbeats 4000000 in
theorem do_crash (w0 : World) (p : Pl) (D : Dk) (x : Ac) (h : DiskAt w0 p D) (hx : x.At w0) (hk : x.kind = 5) (hxo : x.l ≠ [] → ∀ g, Go.Cit.blk x.a = some g → p.Off g) :
    Calls Try.prog 29 #[.pointer (some ⟨p.b, 0, none⟩), .agg x.cs.toArray] w0 fun e w' => e = .returned (.int .i64 (crashE D)) ∧ DiskAt w' p (crashT x.l D) ∧ Save p.Off w0 w' := by
  obtain ⟨w1, hw1⟩ : ∃ w1, w1 = w0.alloc (.cells x.cs.toArray 24) := ⟨_, rfl⟩
  obtain ⟨⟨c0, _, c2⟩, h1, hx1, hs1, _⟩ := do_box w0 p D x h hx w1 hw1
  have hf := crash_calls w1 p D h1 x.a x.l x.c hx1.row hxo
  have HS1 := Lib.hid hs1
  generalize crashE D = E at *
  clear h hx h1 hs1 hxo hx1
  rw [hk] at c0
  go_enter Try.func29, Try.ntmps29
  go_wp2_with fail
  rw [← hw1]
  clear hw1
  refine (hf).mono ?_
  rintro e w2 ⟨rfl, hD2, hs2⟩
  go_wp2_with fail
  go_ret
  exact ⟨rfl, hD2, HS1.out.trans hs2⟩
set_option maxRecDepth 100000 in
set_option maxHeartbeats 4000000 in
theorem do_arm (w0 : World) (p : Pl) (D : Dk) (x : Ac) (h : DiskAt w0 p D) (hx : x.At w0) (hl : x.l.length ≤ 6000) (hk : x.kind = 6) :
    Calls Try.prog 29 #[.pointer (some ⟨p.b, 0, none⟩), .agg x.cs.toArray] w0 fun e w' => e = .returned (.int .i64 (armE D x.n)) ∧ DiskAt w' p (armD D x.n x.l) ∧ Save p.Off w0 w' := by
  obtain ⟨w1, hw1⟩ : ∃ w1, w1 = w0.alloc (.cells x.cs.toArray 24) := ⟨_, rfl⟩
  obtain ⟨⟨c0, _, c2⟩, h1, hx1, hs1, _⟩ := do_box w0 p D x h hx w1 hw1
  have hf := arm_calls w1 p D h1 x.n hx.hn.2 x.a x.l x.c hx1.row (by omega)
  have HS1 := Lib.hid hs1
  generalize armE D x.n = E at *
  clear h hx h1 hs1 hx1
  rw [hk] at c0
  go_enter Try.func29, Try.ntmps29
  go_wp2_with fail
  rw [← hw1]
  clear hw1
  refine (hf).mono ?_
  rintro e w2 ⟨rfl, hD2, hs2⟩
  go_wp2_with fail
  go_ret
  exact ⟨rfl, hD2, HS1.out.trans hs2⟩
set_option maxRecDepth 100000 in
set_option maxHeartbeats 4000000 in
theorem do_else (w0 : World) (p : Pl) (D : Dk) (x : Ac) (h : DiskAt w0 p D) (hx : x.At w0) (hk : x.kind < 0 ∨ 8 < x.kind) :
    Calls Try.prog 29 #[.pointer (some ⟨p.b, 0, none⟩), .agg x.cs.toArray] w0 fun e w' => e = .returned (.int .i64 0) ∧ DiskAt w' p D ∧ Save p.Off w0 w' := by
  obtain ⟨w1, hw1⟩ : ∃ w1, w1 = w0.alloc (.cells x.cs.toArray 24) := ⟨_, rfl⟩
  obtain ⟨⟨c0, c1, _⟩, h1, _, hs1, _⟩ := do_box w0 p D x h hx w1 hw1
  have H1 := Lib.hid h1
  have HS1 := Lib.hid hs1
  have t0 : (x.kind == 0) = false := by simp; omega
  have t1 : (x.kind == 1) = false := by simp; omega
  have t2 : (x.kind == 2) = false := by simp; omega
  have t3 : (x.kind == 3) = false := by simp; omega
  have t4 : (x.kind == 4) = false := by simp; omega
  have t5 : (x.kind == 5) = false := by simp; omega
  have t6 : (x.kind == 6) = false := by simp; omega
  have t7 : (x.kind == 7) = false := by simp; omega
  have t8 : (x.kind == 8) = false := by simp; omega
  clear h hx h1 hs1 hk
  go_enter Try.func29, Try.ntmps29
  go_wp2_with fail
  rw [← hw1]
  clear hw1
  go_ret
  exact ⟨rfl, H1.out, HS1.out⟩
theorem do_calls (w0 : World) (p : Pl) (D : Dk) (x : Ac) (h : DiskAt w0 p D) (hx : x.At w0) (hl : x.l.length ≤ 6000) (hxo : x.l ≠ [] → ∀ g, Go.Cit.blk x.a = some g → p.Off g) :
    Calls Try.prog 29 #[.pointer (some ⟨p.b, 0, none⟩), .agg x.cs.toArray] w0 fun e w' => e = .returned (.int .i64 (actE D x)) ∧ DiskAt w' p (actD D x) ∧ Save p.Off w0 w' := by
  unfold actD actE
  by_cases h0 : x.kind = 0 ∨ x.kind = 1 ∨ x.kind = 2
  · rw [if_pos h0, if_pos h0]; exact do_write w0 p D x h hx hl h0
  rw [if_neg h0, if_neg h0]
  by_cases h3 : x.kind = 3 ∨ x.kind = 4
  · rw [if_pos h3, if_pos h3]; exact do_flush w0 p D x h hx h3
  rw [if_neg h3, if_neg h3]
  by_cases h5 : x.kind = 5
  · rw [if_pos h5, if_pos h5]; exact do_crash w0 p D x h hx h5 hxo
  rw [if_neg h5, if_neg h5]
  by_cases h6 : x.kind = 6
  · rw [if_pos h6, if_pos h6]; exact do_arm w0 p D x h hx hl h6
  rw [if_neg h6, if_neg h6]
  by_cases h7 : x.kind = 7 ∨ x.kind = 8
  · rw [if_pos h7, if_pos h7]; exact do_start w0 p D x h hx h7
  · rw [if_neg h7, if_neg h7]; exact do_else w0 p D x h hx (by omega)
end Go.Proofs.Ytofagofpeedfcaa
