/- The reference's disk: New: walked. -/
import Derived.Test.YtofagofpeedfcaaGreatRDisk4
namespace Go.Proofs.YtofagofpeedfcaaGreat
open Go Go.RowKit Go.Cit

theorem buildOne {P : Program} {T E : TypeId} {n by_ : Nat} {z : Value} (hE : ElemType P T E n by_ z) {ρ : Operand → Value} {o : Oper} (x : Operand) (v : Value) (ho : o.op = .buildSlice T 1 #[(0, x)]) (hx : ρ x = v) (hv : v.cells.size = n) (hn : n ≤ 1000) (w : World) :
    (execOp ρ o).run P w = .ok (.value (.slice (some ⟨w.heap.size, 0, none⟩) 1 1)) (w.alloc (.cells v.cells E)) := by
  have hf := hE.few
  have h := run_vbuild hE (ρ := ρ) (o := o) [x] [v] 1 ho (by simp [hx]) rfl (by decide) (by intro u hu; rw [List.mem_singleton] at hu; rw [hu]; exact hv) (by omega) w
  simpa using h
theorem build_ro (ρ : Operand → Value) (o : Oper) (w : World) (x : Operand) (h : o.op = .build 44 #[(0, x)]) (a : Option Addr) (n c : Nat) (hx : ρ x = .slice a n c) :
    (execOp ρ o).run Tryz.prog w = .ok (.value (.agg #[.slice a n c, .slice none 0 0])) w := by
  unfold execOp; rw [h]
  simp only [List.map_toArray, List.map_cons, List.map_nil, hx]
  kernel_rfl
theorem gp_vapp1 {P : Program} {T E : TypeId} {n by_ : Nat} {z : Value} {α : Type} {f : α → List Value} (hE : ElemType P T E n by_ z) (h1 : ∀ x, ∀ u ∈ f x, u.oneCell' = true) {w : World} {o : Oper} {ρ : Operand → Value} {post : Value → World → Prop} (s x : Operand)
    (ho : o.op = .call { callee := .builtin .append, args := #[s, x], argTypes := #[T, T] }) {B : Nat} {a : Option Addr} {l : List α} {cap g : Nat} {y : α} (hown : VOwn f n E B w a l cap) (hg : w.heap[g]? = some (.cells (f y).toArray E (0, 0))) (hy : (f y).length = n) (hlen : l.length + 1 ≤ 1000000000) (hbase : B ≤ w.heap.size)
    (hs : ρ s = .slice a l.length cap) (hx : ρ x = .slice (some ⟨g, 0, none⟩) 1 1)
    (hp : ∀ g' cap' w', VOwn f n E B w' (some ⟨g', 0, none⟩) (l ++ [y]) cap' → w.grownBy w' (blk a) → (blk a = some g' ∨ g' = w.heap.size) → post (.slice (some ⟨g', 0, none⟩) (l.length + 1) cap') w') : GivesP P post ((execOp ρ o).run P w) := by
  obtain ⟨i, hi, hz0, hz1, hz2⟩ := info_parts hE.info
  obtain ⟨g', cap', w', hr, h2, h3, h4, _⟩ := run_append_lies (P := P) w T o.type B E i z n by_ hE.slice hi hz0 hz1 hz2 hE.zs hE.pos _ l.length (l.flatMap f) hown.row ⟨g, 0, none⟩ 1 1 (f y) (by rw [hy, Nat.one_mul])
    (fun j u hu => by
      rw [add_ad, ad_some, World.cell?, hg]
      simpa using hu) (h1 y) (by decide) (by unfold maxLen; omega) (by have := Nat.mul_le_mul hlen hE.few; omega) hbase _ rfl
  rw [ownBlock_slice] at h3 h4
  refine gp_run (v := .slice (some ⟨g', 0, none⟩) (l.length + 1) cap') (w' := w') ?_ (hp g' cap' w' ⟨?_⟩ h3 h4)
  · simp [execOp, ho, resolve, invoke, builtin, hs, hx, hr, Result.andThen]
  · rw [List.length_append, List.flatMap_append]
    simpa using h2
theorem blk_some {g g' off : Nat} (h : Go.Cit.blk (some ⟨g', off, none⟩) = some g) : g' = g := by simpa [Go.Cit.blk] using h
theorem cRo_one : ∀ x, ∀ u ∈ cRo x, u.oneCell' = true := by
  intro x u hu
  simp only [List.mem_cons, List.not_mem_nil, or_false] at hu
  rcases hu with rfl | rfl <;> rfl
def z64 : List UInt8 := List.replicate 64 0
/-- The reference's disk while it is made. -/
structure NewI (w0 w : World) (b B : Nat) (L : List Ro) (a : Option Addr) (c : Nat) : Prop where
  box : w.heap[b]? = some (.cells #[.slice a L.length c, .bool false, .int .i64 0, .slice none 0 0] 42 (0, 0))
  own : VOwn cRo 2 44 B w a L c
  rows : ∀ x ∈ L, Row w x.fa x.f x.fc ∧ x.f = z64 ∧ x.ka = none ∧ x.k = [] ∧ x.kc = 0 ∧ ∀ g, Go.Cit.blk x.fa = some g → B ≤ g ∧ Go.Cit.blk a ≠ some g
  bB : b < B
  le : B ≤ w.heap.size
  low : Below b w0 w
/-- What the line of operations leaves. -/
def rnSt (w0 w : World) (b B : Nat) (L : List Ro) (a : Option Addr) (c : Nat) : List Value → World → Prop
  | [], wx => Cit.Alike w wx
  | [v1], wx => v1 = .slice (some ⟨w.heap.size, 0, none⟩) 64 64 ∧ Cit.Own 5 w.heap.size wx (some ⟨w.heap.size, 0, none⟩) z64 64 ∧ Below w.heap.size w wx
  | [v1, v2], wx => v1 = .slice (some ⟨w.heap.size, 0, none⟩) 64 64 ∧ v2 = .agg #[.slice (some ⟨w.heap.size, 0, none⟩) 64 64, .slice none 0 0] ∧ Cit.Own 5 w.heap.size wx (some ⟨w.heap.size, 0, none⟩) z64 64 ∧ Below w.heap.size w wx
  | [_, _, v3], wx => ∃ g, v3 = .slice (some ⟨g, 0, none⟩) 1 1 ∧ wx.heap[g]? = some (.cells #[.slice (some ⟨w.heap.size, 0, none⟩) 64 64, .slice none 0 0] 44 (0, 0)) ∧ Cit.Own 5 w.heap.size wx (some ⟨w.heap.size, 0, none⟩) z64 64 ∧ Below w.heap.size w wx
  | [_, _, _, v4], wx => ∃ g' c', v4 = .slice (some ⟨g', 0, none⟩) (L.length + 1) c' ∧ VOwn cRo 2 44 B wx (some ⟨g', 0, none⟩) (L ++ [⟨z64, some ⟨w.heap.size, 0, none⟩, 64, [], none, 0⟩]) c' ∧ Row wx (some ⟨w.heap.size, 0, none⟩) z64 64 ∧ (Go.Cit.blk a = some g' ∨ w.heap.size < g') ∧ Save (fun k => Go.Cit.blk a ≠ some k) w wx
  | _ :: _ :: _ :: _ :: _ :: _, wx => ∃ a' c', NewI w0 wx b B (L ++ [⟨z64, some ⟨w.heap.size, 0, none⟩, 64, [], none, 0⟩]) a' c'
def rn5 (b : Nat) (a : Option Addr) (L : List Ro) (c : Nat) : Nat → Value
  | 12 => (.pointer (some ⟨b, 0, none⟩))
  | 13 => (.pointer (some ⟨b, 0, none⟩))
  | 14 => (.pointer (some ⟨b, 0, none⟩))
  | 15 => (.pointer (some ⟨b, 0, none⟩))
  | 16 => (.slice a L.length c)
  | 21 => (.pointer (some ⟨b, 0, none⟩))
  | 22 => (.pointer (some ⟨b, 0, none⟩))
  | _ => undef
def rn5o (b : Nat) (_ : Option Addr) (_ : List Ro) (_ : Nat) : Nat → Value
  | 3 => (.pointer (some ⟨b, 0, none⟩))
  | _ => undef

set_option maxRecDepth 100000 in
set_option maxHeartbeats 2000000 in
theorem rnew_calls (w0 : World) (n : Nat) (hn0 : 0 < n) (hn : n ≤ 1024) :
    Calls Tryz.prog 6 #[.int .i64 (n : Int)] w0 fun e w' => ∃ r : Rl, e = .returned (.pointer (some ⟨r.b, 0, none⟩)) ∧ RefAt w' r (newD n) ∧ w0.heap.size ≤ r.B ∧ Below w0.heap.size w0 w' := by
  obtain ⟨b, hb⟩ : ∃ b, Hid (b = w0.heap.size) := ⟨_, rfl⟩
  obtain ⟨w1, hw1⟩ : ∃ w1, w1 = w0.alloc (.cells #[.slice none 0 0, .bool false, .int .i64 0, .slice none 0 0] 42) := ⟨_, rfl⟩
  have HI1 : Hid (NewI w0 w1 b (b + 1) [] none 0) := by
    refine ⟨by rw [hw1, hb.out]; exact heap_alloc_new _ _, VOwn.nil_ _ _ _ _ _, fun x hx => by simp at hx, Nat.lt_succ_self _, by rw [hw1, hb.out]; simp, by rw [hw1, hb.out]; exact (Below.refl _ w0).alloc (Nat.le_refl _) _⟩
  go_enter Tryz.func6, Tryz.ntmps6
  go_wp2_with fail
  rw [← hw1]
  rw [← hb.out]
  clear hw1
  go_loopw [4] (fun i wr => ∃ (k : Nat) (L : List Ro) (a : Option Addr) (c : Nat), k ≤ n ∧ i = .int .i64 (k : Int) ∧ Hid (L.length = k) ∧ Hid (NewI w0 wr b (b + 1) L a c)) (fun i _ => n - (intOf i).toNat)
  case atStart => exact ⟨0, [], none, 0, Nat.zero_le _, rfl, rfl, HI1⟩
  case round =>
    obtain ⟨k, L, a, c, hk, rfl, HL, HI⟩ := hrel
    by_cases hlt : k < n
    · have hkn : k + 1 ≤ 1024 := by omega
      have HLE : Hid (L.length ≤ 1024) := by rw [Hid, HL.out]; omega
      have E0 : Hid (∀ q : After wr, q.to.cell? ⟨b, 0, none⟩ = some (.slice a L.length c)) := fun q => After.cell (by rw [World.cell?, HI.out.box]; rfl) q
      have hbw : b < wr.heap.size := Nat.lt_of_lt_of_le HI.out.bB HI.out.le
      have hba : Go.Cit.blk a ≠ some b := fun e => by have := (HI.out.own.blk_ge e).1; omega
      have NBE : Hid (∀ vs wx, rnSt w0 wr b (b + 1) L a c vs wx → vs.length ≤ 3 → Below wr.heap.size wr wx) := fun vs wx h hl => by
        match vs, h, hl with
        | [], h, _ => exact h.1
        | [_], h, _ => exact h.2.2
        | [_, _], h, _ => exact h.2.2.2
        | [_, _, _], h, _ => obtain ⟨_, _, _, _, h⟩ := h; exact h
        | _ :: _ :: _ :: _ :: _, _, hl => simp at hl
      have N5 : Hid (∀ {vs : List Value} wx, rnSt w0 wr b (b + 1) L a c vs wx → vs.length = 0 → ∀ (act : Act) (o : Oper), o.op = .makeSlice 31 (.const (.int .i64 64)) (.const (.int .i64 64)) → GivesP Tryz.prog (fun v w' => rnSt w0 wr b (b + 1) L a c (vs ++ [v]) w') ((execOp act.eval o).run Tryz.prog wx)) := fun {vs} wx h hl act o ho => by
        obtain rfl : vs = [] := List.eq_nil_of_length_eq_zero hl
        have hs : wx.heap.size = wr.heap.size := by rw [h.2]
        refine gp_make bt (.const (.int .i64 64)) (.const (.int .i64 64)) ho 64 rfl rfl (by decide) (fun w' hO hg => ?_)
        rw [hs] at hO
        rw [hs]
        exact ⟨rfl, hO, h.1.trans (grown_below hg (by omega) (fun k hk => by simp at hk))⟩
      have N6 : Hid (∀ vs wx, rnSt w0 wr b (b + 1) L a c vs wx → vs.length = 1 → ∀ (act : Act) (o : Oper), o.op = .build 44 #[(0, .tmp 17)] → (∀ v, vs[0]? = some v → act.eval (.tmp 17) = v) → GivesP Tryz.prog (fun v w' => rnSt w0 wr b (b + 1) L a c (vs ++ [v]) w') ((execOp act.eval o).run Tryz.prog wx)) := fun vs wx h hl act o ho hv => by
        match vs, h, hl with
        | [v1], h, _ =>
          obtain ⟨rfl, h2, h3⟩ := h
          exact gp_run (build_ro _ _ _ _ ho _ _ _ (hv _ rfl)) ⟨rfl, rfl, h2, h3⟩
      have N7 : Hid (∀ vs wx, rnSt w0 wr b (b + 1) L a c vs wx → vs.length = 2 → ∀ (act : Act) (o : Oper), o.op = .buildSlice 40 1 #[(0, .tmp 18)] → (∀ v, vs[1]? = some v → act.eval (.tmp 18) = v) → GivesP Tryz.prog (fun v w' => rnSt w0 wr b (b + 1) L a c (vs ++ [v]) w') ((execOp act.eval o).run Tryz.prog wx)) := fun vs wx h hl act o ho hv => by
        match vs, h, hl with
        | [v1, v2], h, _ =>
          obtain ⟨rfl, rfl, h2, h3⟩ := h
          exact gp_run (buildOne etR (.tmp 18) _ ho (hv _ rfl) rfl (by decide) wx) ⟨wx.heap.size, rfl, heap_alloc_new _ _, h2.alloc _, h3.alloc h3.size _⟩
      have N8 : Hid (∀ vs wx, rnSt w0 wr b (b + 1) L a c vs wx → vs.length = 3 → ∀ (act : Act) (o : Oper), o.op = .call { callee := .builtin .append, args := #[.tmp 16, .tmp 19], argTypes := #[40, 40] } → act.eval (.tmp 16) = .slice a L.length c → (∀ v, vs[2]? = some v → act.eval (.tmp 19) = v) → GivesP Tryz.prog (fun v w' => rnSt w0 wr b (b + 1) L a c (vs ++ [v]) w') ((execOp act.eval o).run Tryz.prog wx)) := fun vs wx h hl act o ho hs hv => by
        match vs, h, hl with
        | [_, _, v3], h, _ =>
          obtain ⟨g, rfl, h1, h2, h3⟩ := h
          have hsz : wr.heap.size < wx.heap.size := (h2.blk_ge rfl).2
          refine gp_vapp1 etR cRo_one (.tmp 16) (.tmp 19) ho (HI.out.own.stay h3) (y := ⟨z64, some ⟨wr.heap.size, 0, none⟩, 64, [], none, 0⟩) h1 rfl (by have := HLE.out; omega) (by have := HI.out.le; omega) hs (hv _ rfl) (fun g' cap' w' hO hg hn => ?_)
          have hS : Save (fun k => Go.Cit.blk a ≠ some k) wr w' := (Save.of h3).trans ((Save.grown hg).less (fun k _ hk => fun e => hk (by rw [e])))
          refine ⟨g', cap', rfl, hO, (h2.isRow.save (Save.grown hg) (fun g hg' e => ?_)), ?_, hS⟩
          · have e1 : wr.heap.size = g := by simpa [Go.Cit.blk] using hg'
            rw [← e1] at e
            have := (HI.out.own.blk_ge (g := wr.heap.size) e.symm).2
            omega
          · rcases hn with hn | hn
            · exact .inl hn
            · exact .inr (by omega)
      have N11 : Hid (∀ vs wx, rnSt w0 wr b (b + 1) L a c vs wx → vs.length = 4 → ∀ (act : Act) (o : Oper), o.op = .store 40 (.tmp 22) (.tmp 20) → act.eval (.tmp 22) = .pointer (some ⟨b, 0, none⟩) → (∀ v, vs[3]? = some v → act.eval (.tmp 20) = v) → GivesP Tryz.prog (fun v w' => rnSt w0 wr b (b + 1) L a c (vs ++ [v]) w') ((execOp act.eval o).run Tryz.prog wx)) := fun vs wx h hl act o ho hs hv => by
        match vs, h, hl with
        | [_, _, _, v4], h, _ =>
          obtain ⟨g', c', rfl, hO, hR, hn, hS⟩ := h
          have hbx : wx.heap[b]? = some (.cells #[.slice a L.length c, .bool false, .int .i64 0, .slice none 0 0] 42 (0, 0)) := (hS.block b hbw hba).trans HI.out.box
          have hc : wx.cell? ⟨b, 0, none⟩ = some (.slice a L.length c) := by rw [World.cell?, hbx]; rfl
          have hf : wx.frozen? ⟨b, 0, none⟩ = false := by rw [World.frozen?, hbx]; simp
          have hg'b : b + 1 ≤ g' := (hO.blk_ge rfl).1
          have hsb : Save (· ≠ b) wx (wx.setCell ⟨b, 0, none⟩ (.slice (some ⟨g', 0, none⟩) (L.length + 1) c')) := Save.set
          refine gp_store (.tmp 22) (.tmp 20) ho hs (hv _ rfl) (store_slice (fun w => by kernel_rfl) hc hf) ⟨some ⟨g', 0, none⟩, c', ?_, hO.save hsb (fun g hg => by have e1 := blk_some hg; omega), ?_, Nat.lt_succ_self _, ?_, ?_⟩
          · rw [List.length_append]
            exact setCell_in _ hbx
          · intro x hx
            rcases List.mem_append.1 hx with hx | hx
            · obtain ⟨r1, r2, r3, r4, r5, r6⟩ := HI.out.rows x hx
              have hS2 : Save (fun k => Go.Cit.blk a ≠ some k ∧ k ≠ b) wr (wx.setCell ⟨b, 0, none⟩ (.slice (some ⟨g', 0, none⟩) (L.length + 1) c')) := (hS.less (fun _ _ h => h.1)).trans (hsb.less (fun _ _ h => h.2))
              refine ⟨r1.save hS2 (fun g hg => ⟨(r6 g hg).2, by have := (r6 g hg).1; omega⟩), r2, r3, r4, r5, fun g hg => ⟨(r6 g hg).1, fun e => ?_⟩⟩
              have e1 : g' = g := by simpa [Go.Cit.blk] using e
              subst e1
              rcases hn with hn | hn
              · exact (r6 g' hg).2 hn
              · have hne : x.f ≠ [] := by rw [r2]; simp [z64]
                obtain ⟨g2, off, e2⟩ := r1.spot hne
                rw [e2] at hg r1
                have e3 : g2 = g' := by simpa [Go.Cit.blk] using hg
                have := r1.blk (i := 0) (by rw [r2]; simp [z64])
                simp [ad] at this
                omega
            · obtain rfl := List.mem_singleton.1 hx
              refine ⟨hR.save hsb (fun g hg => by have e1 := blk_some hg; omega), rfl, rfl, rfl, rfl, fun g hg => ?_⟩
              have e1 : wr.heap.size = g := by simpa [Go.Cit.blk] using hg
              refine ⟨by have := HI.out.le; omega, fun e => ?_⟩
              have e2 : g' = g := by simpa [Go.Cit.blk] using e
              rcases hn with hn | hn
              · have := (HI.out.own.blk_ge hn).2; omega
              · omega
          · exact Nat.le_trans HI.out.le (Nat.le_trans hS.size hsb.size)
          · refine HI.out.low.trans (((hS.less (T := fun k => k < b) (fun k _ hk e => ?_)).trans (hsb.less (fun k _ hk => by omega))).below (Nat.le_of_lt hbw) (fun k hk => hk))
            have := (HI.out.own.blk_ge e).1; omega
      have HLk := HL.out
      clear HLk
      go_upto_region 5 with fail
      refine wp_region_line (rn5 b a L c) (rn5o b a L c) [3] [5, 6, 7, 8, 11] (rnSt w0 wr b (b + 1) L a c) (by kernel_rfl) (by kernel_rfl) (by kernel_rfl) ⟨rfl, trivial⟩ (fun _ h => h) ?_ ?_
      · refine opsAll_cons ?_ (opsAll_cons ?_ (opsAll_cons ?_ (opsAll_cons ?_ (opsAll_cons ?_ (opsAll_cons ?_ (opsAll_cons ?_ (opsAll_cons ?_ (opsAll_cons ?_ (opsAll_cons ?_ (opsAll_cons ?_ (opsAll_cons ?_ opsAll_nil)))))))))))
        all_goals intro a_ vs hk
        · exact ⟨wanted_free rfl, .inr ⟨by decide, fun s1 s2 hle wx hst => gp_move (.tmp 3) rfl ⟨rfl, (show a_.eval (.tmp 3) = (.pointer (some ⟨b, 0, none⟩)) from hk.old 3 (by kernel_rfl))⟩⟩⟩
        · exact ⟨wanted_free rfl, .inr ⟨by decide, fun s1 s2 hle wx hst => gp_move (.tmp 3) rfl ⟨rfl, (show a_.eval (.tmp 3) = (.pointer (some ⟨b, 0, none⟩)) from hk.old 3 (by kernel_rfl))⟩⟩⟩
        · exact ⟨wanted_free rfl, .inr ⟨by decide, fun s1 s2 hle wx hst => gp_nil (.tmp 13) rfl (show a_.eval (.tmp 13) = (.pointer (some ⟨b, 0, none⟩)) from hk.slot 13 (by kernel_rfl) (by kernel_rfl)) ⟨rfl, rfl⟩⟩⟩
        · exact ⟨wanted_free rfl, .inr ⟨by decide, fun s1 s2 hle wx hst => gp_field (.tmp 14) rfl (show a_.eval (.tmp 14) = (.pointer (some ⟨b, 0, none⟩)) from hk.slot 14 (by kernel_rfl) (by kernel_rfl)) (v := (.pointer (some ⟨b, 0, none⟩))) (fun w => by kernel_rfl) ⟨rfl, rfl⟩⟩⟩
        · exact ⟨wanted_free rfl, .inr ⟨by decide, fun s1 s2 hle wx hst => gp_load (.tmp 15) rfl (show a_.eval (.tmp 15) = (.pointer (some ⟨b, 0, none⟩)) from hk.slot 15 (by kernel_rfl) (by kernel_rfl)) (v := (.slice a L.length c)) ((fun (q : After _) => load_at (fun w => by kernel_rfl) (E0.out q)) ⟨wx, NBE.out _ wx hst (s2 3 8 rfl (by kernel_rfl))⟩) ⟨rfl, rfl⟩⟩⟩
        · refine ⟨wanted_free rfl, .inl ⟨0, rfl, fun hvs wx hst => ?_⟩⟩
          exact N5.out wx hst hvs _ _ rfl
        · refine ⟨wanted_free rfl, .inl ⟨1, rfl, fun hvs wx hst => ?_⟩⟩
          exact N6.out vs wx hst hvs _ _ rfl (fun v hv => hk.line 0 17 v hv (by kernel_rfl))
        · refine ⟨wanted_free rfl, .inl ⟨2, rfl, fun hvs wx hst => ?_⟩⟩
          exact N7.out vs wx hst hvs _ _ rfl (fun v hv => hk.line 1 18 v hv (by kernel_rfl))
        · refine ⟨wanted_free rfl, .inl ⟨3, rfl, fun hvs wx hst => ?_⟩⟩
          exact N8.out vs wx hst hvs _ _ rfl (show a_.eval (.tmp 16) = (.slice a L.length c) from hk.slot 16 (by kernel_rfl) (by kernel_rfl)) (fun v hv => hk.line 2 19 v hv (by kernel_rfl))
        · exact ⟨wanted_free rfl, .inr ⟨by decide, fun s1 s2 hle wx hst => gp_nil (.tmp 12) rfl (show a_.eval (.tmp 12) = (.pointer (some ⟨b, 0, none⟩)) from hk.slot 12 (by kernel_rfl) (by kernel_rfl)) ⟨rfl, rfl⟩⟩⟩
        · exact ⟨wanted_free rfl, .inr ⟨by decide, fun s1 s2 hle wx hst => gp_field (.tmp 21) rfl (show a_.eval (.tmp 21) = (.pointer (some ⟨b, 0, none⟩)) from hk.slot 21 (by kernel_rfl) (by kernel_rfl)) (v := (.pointer (some ⟨b, 0, none⟩))) (fun w => by kernel_rfl) ⟨rfl, rfl⟩⟩⟩
        · refine ⟨wanted_free rfl, .inl ⟨4, rfl, fun hvs wx hst => ?_⟩⟩
          exact N11.out vs wx hst hvs _ _ rfl (show a_.eval (.tmp 22) = (.pointer (some ⟨b, 0, none⟩)) from hk.slot 22 (by kernel_rfl) (by kernel_rfl)) (fun v hv => hk.line 3 20 v hv (by kernel_rfl))
      intro a_ vs wz hlen9 hfin hsame hall hline
      have he := act_same hsame [12, 13, 14, 15, 16, 17, 18, 19, 20, 21, 22] (by kernel_rfl)
      simp only [List.foldl_cons, List.foldl_nil] at he
      generalize a_.eval (.tmp 12) = y12 at he
      generalize a_.eval (.tmp 13) = y13 at he
      generalize a_.eval (.tmp 14) = y14 at he
      generalize a_.eval (.tmp 15) = y15 at he
      generalize a_.eval (.tmp 16) = y16 at he
      generalize a_.eval (.tmp 17) = y17 at he
      generalize a_.eval (.tmp 18) = y18 at he
      generalize a_.eval (.tmp 19) = y19 at he
      generalize a_.eval (.tmp 20) = y20 at he
      generalize a_.eval (.tmp 21) = y21 at he
      generalize a_.eval (.tmp 22) = y22 at he
      simp only [put_lit] at he
      dsimp only [List.set_cons_zero, List.set_cons_succ] at he
      subst he
      clear hsame hall
      obtain ⟨a', c', hfin⟩ : ∃ a' c', NewI w0 wz b (b + 1) (L ++ [⟨z64, some ⟨wr.heap.size, 0, none⟩, 64, [], none, 0⟩]) a' c' := by
        match vs, hlen9, hfin with
        | _ :: _ :: _ :: _ :: _ :: _, _, hfin => exact hfin
      have HF := Lib.hid hfin
      clear hfin NBE N5 N6 N7 N8 N11 E0
      go_wp2_with fail
      go_roundw
      case rel => exact ⟨k + 1, _, a', c', hlt, by go_num, by rw [Hid, List.length_append, HL.out]; rfl, HF⟩
      case measure => simp [intOf]; omega
    · go_wp2_with fail
      go_ret
      have hkn : k = n := by omega
      have hll := HL.out
      have hne : L ≠ [] := by intro h0; rw [h0] at hll; simp at hll; omega
      rcases HI.out.own.row.2 with ⟨hv, hn⟩ | ⟨g, c2, cur, hv, hbg, hg, _⟩
      · exact absurd (List.eq_nil_of_length_eq_zero hn) hne
      · injection hv with h1 h2 h3
        subst h1
        have hok := newD_ok n hn0 hn
        refine ⟨⟨b, g, b, fun _ => False⟩, rfl, ⟨L, c, none, 0, ?_, HI.out.own.held (fun _ => rfl), ?_, Row.nil_ _, fun g hg => by simp [Go.Cit.blk] at hg, by show b ≠ g; omega, Nat.le_refl _, by show b ≤ g; omega, ⟨fun h => h, fun h => h⟩, fun _ h => h.elim, ?_, ?_, hok⟩, Nat.le_of_eq hb.out.symm, by rw [← hb.out]; exact HI.out.low⟩
        · exact HI.out.box
        · intro x hx
          obtain ⟨r1, r2, r3, r4, r5, r6⟩ := HI.out.rows x hx
          refine ⟨r1, by rw [r3, r4, r5]; exact Row.nil_ _, fun g3 hg3 => ?_, by rw [r3]; exact fun g hg => by simp [Go.Cit.blk] at hg⟩
          have h5 := r6 g3 hg3
          have h6 : g3 ≠ g := fun e => h5.2 (by rw [e]; rfl)
          have h7 : g3 < wr.heap.size := by
            have hne : x.f ≠ [] := by rw [r2]; simp [z64]
            obtain ⟨g2, off, e2⟩ := r1.spot hne
            rw [e2] at hg3 r1
            have e3 := blk_some hg3
            have := r1.blk (i := 0) (by rw [r2]; simp [z64])
            simp [ad] at this
            omega
          exact ⟨by show b ≤ g3; omega, ⟨⟨by show g3 ≠ b; omega, h6⟩, fun h => h⟩, h7⟩
        · show List.replicate n (List.replicate 64 0) = L.map (·.f)
          rw [← hkn, ← hll]
          refine (List.eq_replicate_iff.2 ⟨by simp, fun y hy => ?_⟩).symm
          obtain ⟨x, hx, rfl⟩ := List.mem_map.1 hy
          exact (HI.out.rows x hx).2.1
        · show List.replicate n none = L.map Ro.cache
          rw [← hkn, ← hll]
          refine (List.eq_replicate_iff.2 ⟨by simp, fun y hy => ?_⟩).symm
          obtain ⟨x, hx, rfl⟩ := List.mem_map.1 hy
          rw [Ro.cache, (HI.out.rows x hx).2.2.1]; rfl
end Go.Proofs.YtofagofpeedfcaaGreat
