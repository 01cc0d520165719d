/- Chapter 12's awake: walked. -/
import Derived.Test.YtpnbaapjjchlbaaIs12
import Derived.Test.YtpnbaapjjchlbaaVChk
import Derived.Test.YtpnbaapjjchlbaaVals
import Derived.Test.YtpnbaapjjchlbaaLawValidChecks
import Derived.Deep.CutBlock
import Derived.Deep.DeepCutAuto
namespace Go.Proofs.Ytpnbaapjjchlbaa
open Go Go.RowKit Go.Cit

theorem vown_of_blk {α : Type} {f : α → List Value} {n E B : Nat} {w : World} {g : Nat} {l : List α} (hf : ∀ x, (f x).length = n) (hb : B ≤ g) (hl : l.length ≤ 1000000000) {cs : Array Value} (h : w.heap[g]? = some (.cells cs E (0, 0))) (hc : cs = (l.flatMap f).toArray) : VOwn f n E B w (some ⟨g, 0, none⟩) l l.length := by
  subst hc
  exact ⟨⟨flatLen hf l, .inr ⟨g, l.length, _, rfl, hb, h, Nat.le_refl _, by unfold maxLen; omega, by rw [List.size_toArray, flatLen hf], by rw [List.toList_toArray]; exact List.take_of_length_le (by rw [flatLen hf]; exact Nat.le_refl _)⟩⟩⟩

@[reducible] def cShW : Array Value := #[.int .i64 2, .int .i64 1]
@[reducible] def cShP : Array Value := #[.int .i64 1, .int .i64 0, .int .i64 16, .bool false, .slice none 0 0]
set_option maxRecDepth 100000 in
set_option maxHeartbeats 1000000 in
theorem shown12x_calls (w : World) (n : Nat) (hn : w.heap.size = n) : Calls Try.prog 64 #[] w fun e w' => e = .returned (.agg #[.slice (some ⟨n + 1, 0, none⟩) 1 1, .slice (some ⟨n + 2, 0, none⟩) 1 1, .slice none 0 0]) ∧
    w'.heap[n + 1]? = some (.cells cShW 52 (0, 0)) ∧ w'.heap[n + 2]? = some (.cells cShP 43 (0, 0)) ∧ w'.heap.size = n + 3 ∧ Below w.heap.size w w' := by
  subst hn
  go_enter Try.func64, Try.ntmps64
  go_wp2_with (first
    | ((with_reducible refine wpList_value (o := ⟨some 2, .buildSlice _ _ _, _, _, _, _⟩) (by with_unfolding_all rfl) (build1c etW (.tmp 1) (.agg #[.int .i64 2, .int .i64 1]) #[.int .i64 2, .int .i64 1] rfl (by with_unfolding_all rfl) (by with_unfolding_all rfl) (by with_unfolding_all rfl) (by decide) _) ?_))
    | ((with_reducible refine wpList_value (o := ⟨some 5, .buildSlice _ _ _, _, _, _, _⟩) (by with_unfolding_all rfl) (build1c etP (.tmp 4) (.agg #[.int .i64 1, .int .i64 0, .int .i64 16, .bool false, .slice none 0 0]) #[.int .i64 1, .int .i64 0, .int .i64 16, .bool false, .slice none 0 0] rfl (by with_unfolding_all rfl) (by with_unfolding_all rfl) (by with_unfolding_all rfl) (by decide) _) ?_)))
  have hres : (((w.alloc (.cells #[.slice (some ⟨w.heap.size + 1, 0, none⟩) 1 1, .slice (some ⟨w.heap.size + 1 + 1, 0, none⟩) 1 1, .slice none 0 0] 26)).alloc (.cells #[.int .i64 2, .int .i64 1] 52)).alloc (.cells #[.int .i64 1, .int .i64 0, .int .i64 16, .bool false, .slice none 0 0] 43)).heap[w.heap.size]? = _ :=
    (Below.heap_alloc _ _ _ (by simp; omega)).trans ((Below.heap_alloc _ _ _ (by simp)).trans (heap_alloc_new w _))
  refine bodyPost_ret (resB1 rowCfg rfl (by rfl) hres rfl) rfl ⟨rfl, ?_, ?_, by simp, (((Below.refl _ w).alloc (Nat.le_refl _) _).alloc (by simp) _).alloc (by simp; omega) _⟩
  · refine (Below.heap_alloc _ _ _ (by simp)).trans ?_
    have := heap_alloc_new (w.alloc (.cells #[.slice (some ⟨w.heap.size + 1, 0, none⟩) 1 1, .slice (some ⟨w.heap.size + 1 + 1, 0, none⟩) 1 1, .slice none 0 0] 26)) (.cells #[.int .i64 2, .int .i64 1] 52)
    simpa using this
  · have := heap_alloc_new ((w.alloc (.cells #[.slice (some ⟨w.heap.size + 1, 0, none⟩) 1 1, .slice (some ⟨w.heap.size + 1 + 1, 0, none⟩) 1 1, .slice none 0 0] 26)).alloc (.cells #[.int .i64 2, .int .i64 1] 52)) (.cells #[.int .i64 1, .int .i64 0, .int .i64 16, .bool false, .slice none 0 0] 43)
    simpa using this

/-- What lies in the blocks that are told. -/
def Blks (w : World) (l : List (Nat × Obj)) : Prop := ∀ p ∈ l, w.heap[p.1]? = some p.2
theorem Blks.get {w : World} {l : List (Nat × Obj)} (h : Blks w l) (i : Nat) {k : Nat} {o : Obj} (hi : l[i]? = some (k, o)) : w.heap[k]? = some o := h (k, o) (List.mem_of_getElem? hi)
theorem Blks.save {S : Nat → Prop} {w w' : World} {l : List (Nat × Obj)} (h : Blks w l) (hs : Save S w w') (hS : ∀ p ∈ l, S p.1) : Blks w' l := fun p hp =>
  (hs.block _ (Array.getElem?_eq_some_iff.1 (h p hp)).1 (hS p hp)).trans (h p hp)
theorem Blks.stay {w w' : World} {l : List (Nat × Obj)} (h : Blks w l) (hs : Below w.heap.size w w') : Blks w' l := h.save (Save.of (S := fun _ => True) hs) fun _ _ => trivial
theorem Blks.cons {w : World} {l : List (Nat × Obj)} {k : Nat} {o : Obj} (h : w.heap[k]? = some o) (hl : Blks w l) : Blks w ((k, o) :: l) := fun p hp => by
  rcases List.mem_cons.1 hp with rfl | hp
  · exact h
  · exact hl p hp
theorem Blks.drew {w : World} {l : List (Nat × Obj)} (h : Blks w l) : Blks w.drew l := fun p hp => h p hp
theorem Blks.nil (w : World) : Blks w [] := fun p hp => by simp at hp
theorem Blks.upd {w w' : World} {l : List (Nat × Obj)} {g : Nat} {o' : Obj} (h : Blks w l) (hs : Save (· ≠ g) w w') (hg : w'.heap[g]? = some o') (i : Nat) (hne : ∀ p ∈ l.eraseIdx i, p.1 ≠ g) : Blks w' ((g, o') :: l.eraseIdx i) :=
  Blks.cons hg (Blks.save (fun p hp => h p (List.mem_of_mem_eraseIdx hp)) hs hne)
theorem setCell_blk {w : World} {b i : Nat} {cs : Array Value} {E : TypeId} {fr : Nat × Nat} (v : Value) (h : w.heap[b]? = some (.cells cs E fr)) : (w.setCell ⟨b, i, none⟩ v).heap[b]? = some (.cells (cs.setIfInBounds i v) E fr) := by
  simp [World.setCell, Array.getElem?_modify, h]
theorem Save.row {w w' : World} {g : Nat} (h : w.grownBy w' (blk (some ⟨g, 0, none⟩))) : Save (· ≠ g) w w' := (Save.grown h).less fun k _ hk => by simpa [blk] using hk
def i8 : I64 := ⟨8, by decide⟩
def win22 : Win := ⟨⟨2, by decide⟩, ⟨2, by decide⟩⟩
theorem small_of_len {V : CfgV} (h1 : V.ws.length ≤ 100) (h2 : V.ps.length ≤ 100) (h3 : V.cs.length ≤ 100) (h4 : V.ps.all (fun x => decide (x.img.length ≤ 10000)) = true) : SmallV V :=
  ⟨h1, h2, h3, fun x hx => by simpa using List.all_eq_true.1 h4 x hx⟩
theorem at_of {w : World} {V : CfgV} {E1 E2 E3 B1 B2 B3 : Nat} (h1 : VOwn cWin 2 E1 B1 w V.wa V.ws V.wc) (h2 : VOwn cPt 5 E2 B2 w V.pa V.ps V.pc) (h3 : VOwn cCh 5 E3 B3 w V.ca V.cs V.cc) (h4 : ∀ x ∈ V.ps, Row w x.a x.img x.c) : V.At w := ⟨h1.vec cWin_len, h2.vec cPt_len, h3.vec cCh_len, h4⟩
@[reducible] def bxO (V : CfgV) : Obj := .cells #[.slice V.wa V.ws.length V.wc, .slice V.pa V.ps.length V.pc, .slice V.ca V.cs.length V.cc] 26 (0, 0)
theorem in_of {w : World} {b : Nat} {V : CfgV} (h : w.heap[b]? = some (bxO V)) : InBox w b V := ⟨by rw [World.cell?, h]; rfl, by rw [World.cell?, h]; rfl, by rw [World.cell?, h]; rfl⟩
/-- Four variables, and what they hold. -/
structure AwkS (w0 w : World) (n : Nat) (A B C D : CfgV) : Prop where
  a : A.At w
  b : B.At w
  c : C.At w
  d : D.At w
  xa : w.heap[n + 12]? = some (bxO A)
  xb : w.heap[n + 13]? = some (bxO B)
  xc : w.heap[n + 14]? = some (bxO C)
  xd : w.heap[n + 15]? = some (bxO D)
  low : Below w0.heap.size w0 w
theorem blk_stay {w w' : World} {k : Nat} {o : Obj} (h : w.heap[k]? = some o) (hb : Below w.heap.size w w') : w'.heap[k]? = some o := (hb.block k (Array.getElem?_eq_some_iff.1 h).1).trans h
theorem AwkS.stay {w0 w w' : World} {n : Nat} {A B C D : CfgV} (h : AwkS w0 w n A B C D) (hb : Below w.heap.size w w') : AwkS w0 w' n A B C D :=
  ⟨h.a.stay hb, h.b.stay hb, h.c.stay hb, h.d.stay hb, blk_stay h.xa hb, blk_stay h.xb hb, blk_stay h.xc hb, blk_stay h.xd hb, h.low.trans (hb.mono h.low.size)⟩
structure AwkT (w0 w : World) (n : Nat) (A B C : CfgV) : Prop where
  a : A.At w
  b : B.At w
  c : C.At w
  xa : w.heap[n + 12]? = some (bxO A)
  xb : w.heap[n + 13]? = some (bxO B)
  xc : w.heap[n + 14]? = some (bxO C)
  low : Below w0.heap.size w0 w
theorem AwkT.stay {w0 w w' : World} {n : Nat} {A B C : CfgV} (h : AwkT w0 w n A B C) (hb : Below w.heap.size w w') : AwkT w0 w' n A B C :=
  ⟨h.a.stay hb, h.b.stay hb, h.c.stay hb, blk_stay h.xa hb, blk_stay h.xb hb, blk_stay h.xc hb, h.low.trans (hb.mono h.low.size)⟩
def i12 : I64 := ⟨12, by decide⟩
def i2 : I64 := ⟨2, by decide⟩
theorem is_lit (w : World) (V : CfgV) (h : V.At w) (hs : SmallV V) (cs : Array Value) (M : List Int) (hc : cs = (M.flatMap cZ).toArray) (hl : M.length ≤ 10) (he : errs V = M) (m : Nat) (hm : m = M.length) (k : Nat) (hk : k = w.heap.size) :
    Calls Try.prog 27 #[.agg #[.slice V.wa V.ws.length V.wc, .slice V.pa V.ps.length V.pc, .slice V.ca V.cs.length V.cc], .slice (some ⟨k, 0, none⟩) m m] (w.alloc (.cells cs 33)) fun e w' => e = .returned (.bool true) ∧ Below w.heap.size w w' := by
  subst hm hk
  have B0 : Below w.heap.size w (w.alloc (.cells cs 33)) := (Below.refl _ w).alloc (Nat.le_refl _) _
  have := is_calls (w.alloc (.cells cs 33)) V (h.stay B0) hs (some ⟨w.heap.size, 0, none⟩) M M.length (vec_lit w cs 33 1 M cZ_len hc (by omega))
  rw [decide_eq_true he] at this
  exact this.mono fun e w' ⟨h1, h2⟩ => ⟨h1, B0.trans (h2.mono B0.size)⟩
def cfgS (g : Nat) : CfgV := ⟨some ⟨g + 1, 0, none⟩, [win21], 1, some ⟨g + 2, 0, none⟩, [ptv1 i1 i0 i16 [] none 0], 1, none, [], 0⟩
theorem cfgS_at {w : World} {g : Nat} (h1 : w.heap[g + 1]? = some (.cells cShW 52 (0, 0))) (h2 : w.heap[g + 2]? = some (.cells cShP 43 (0, 0))) : (cfgS g).At w :=
  at_of (B1 := 0) (B2 := 0) (vown_of_blk (l := [win21]) cWin_len (Nat.zero_le _) (by decide) h1 rfl) (vown_of_blk (l := [ptv1 i1 i0 i16 [] none 0]) cPt_len (Nat.zero_le _) (by decide) h2 rfl) (VOwn.nil_ cCh 5 0 0 w) (fun x hx => by
    obtain rfl : x = ptv1 i1 i0 i16 [] none 0 := by simpa [cfgS] using hx
    exact (Cit.Own.nil 5 0 _).isRow)
theorem cfgS_small (g : Nat) : SmallV (cfgS g) := small_of_len (by simp [cfgS]) (by simp [cfgS]) (by simp [cfgS]) (by rfl)
theorem cfgS_errs (g : Nat) : errs (cfgS g) = [] := by kernel_rfl
set_option maxRecDepth 100000 in
set_option maxHeartbeats 4000000 in
theorem awake12_calls (w : World) : Calls Try.prog 26 #[] w fun e w' => e = .returned (.bool true) ∧ Below w.heap.size w w' := by
  obtain ⟨N, hN⟩ : ∃ N, Hid (N = w.heap.size) := ⟨_, rfl⟩
  have HC1 := Lib.hid (shown12x_calls w N hN.out.symm)
  go_enter Try.func26, Try.ntmps26
  go_wp2_with fail
  refine (HC1.out).mono ?_
  rintro e w1 ⟨rfl, p1, p2, s1, hb1⟩
  have P1 := Lib.hid (And.intro (Blks.cons p1 (Blks.cons p2 (Blks.nil w1))) hb1)
  have HC2 := Lib.hid (shown12x_calls w1 (N + 3) s1)
  clear p1 p2 s1 hb1 HC1
  go_wp2_with fail
  refine (HC2.out).mono ?_
  rintro e w2 ⟨rfl, p1, p2, s1, hb1⟩
  have P2 := Lib.hid (And.intro (Blks.cons p1 (Blks.cons p2 (P1.out.1.stay hb1))) (P1.out.2.trans (hb1.mono P1.out.2.size)))
  have HC3 := Lib.hid (shown12x_calls w2 (N + 6) s1)
  clear p1 p2 s1 hb1 HC2 P1
  go_wp2_with fail
  refine (HC3.out).mono ?_
  rintro e w3 ⟨rfl, p1, p2, s1, hb1⟩
  have P3 := Lib.hid (And.intro (Blks.cons p1 (Blks.cons p2 (P2.out.1.stay hb1))) (P2.out.2.trans (hb1.mono P2.out.2.size)))
  have HC4 := Lib.hid (shown12x_calls w3 (N + 9) s1)
  clear p1 p2 s1 hb1 HC3 P2
  go_wp2_with fail
  refine (HC4.out).mono ?_
  rintro e w4 ⟨rfl, p1, p2, s1, hb1⟩
  have P4 := Lib.hid (And.intro (Blks.cons p1 (Blks.cons p2 (P3.out.1.stay hb1))) (P3.out.2.trans (hb1.mono P3.out.2.size)))
  have s4 : w4.heap.size = N + 12 := s1
  clear p1 p2 s1 hb1 HC4 P3
  go_upto_region 2 with fail
  obtain ⟨wA, hwA⟩ : ∃ wA, wA = (((w4.alloc (.cells #[.slice (some ⟨N + 1, 0, none⟩) 1 1, .slice (some ⟨N + 2, 0, none⟩) 1 1, .slice none 0 0] 26 (0, 0))).alloc (.cells #[.slice (some ⟨N + 3 + 1, 0, none⟩) 1 1, .slice (some ⟨N + 3 + 2, 0, none⟩) 1 1, .slice none 0 0] 26 (0, 0))).alloc (.cells #[.slice (some ⟨N + 6 + 1, 0, none⟩) 1 1, .slice (some ⟨N + 6 + 2, 0, none⟩) 1 1, .slice none 0 0] 26 (0, 0))).alloc (.cells #[.slice (some ⟨N + 9 + 1, 0, none⟩) 1 1, .slice (some ⟨N + 9 + 2, 0, none⟩) 1 1, .slice none 0 0] 26 (0, 0)) := ⟨_, rfl⟩
  have hA : Blks wA [(N + 12, (.cells #[.slice (some ⟨N + 1, 0, none⟩) 1 1, .slice (some ⟨N + 2, 0, none⟩) 1 1, .slice none 0 0] 26 (0, 0))), (N + 13, (.cells #[.slice (some ⟨N + 3 + 1, 0, none⟩) 1 1, .slice (some ⟨N + 3 + 2, 0, none⟩) 1 1, .slice none 0 0] 26 (0, 0))), (N + 14, (.cells #[.slice (some ⟨N + 6 + 1, 0, none⟩) 1 1, .slice (some ⟨N + 6 + 2, 0, none⟩) 1 1, .slice none 0 0] 26 (0, 0))), (N + 15, (.cells #[.slice (some ⟨N + 9 + 1, 0, none⟩) 1 1, .slice (some ⟨N + 9 + 2, 0, none⟩) 1 1, .slice none 0 0] 26 (0, 0))), (N + 10, .cells cShW 52 (0, 0)), (N + 11, .cells cShP 43 (0, 0)), (N + 7, .cells cShW 52 (0, 0)), (N + 8, .cells cShP 43 (0, 0)), (N + 4, .cells cShW 52 (0, 0)), (N + 5, .cells cShP 43 (0, 0)), (N + 1, .cells cShW 52 (0, 0)), (N + 2, .cells cShP 43 (0, 0))] := by
    have h1 := P4.out.1
    rw [hwA]
    refine Blks.cons ?_ (Blks.cons ?_ (Blks.cons ?_ (Blks.cons ?_ ?_)))
    · have := heap_alloc_new w4 (.cells #[.slice (some ⟨N + 1, 0, none⟩) 1 1, .slice (some ⟨N + 2, 0, none⟩) 1 1, .slice none 0 0] 26 (0, 0))
      rw [s4] at this
      exact (Below.heap_alloc _ _ _ (by simp; omega)).trans ((Below.heap_alloc _ _ _ (by simp; omega)).trans ((Below.heap_alloc _ _ _ (by simp; omega)).trans this))
    · have := heap_alloc_new (w4.alloc (.cells #[.slice (some ⟨N + 1, 0, none⟩) 1 1, .slice (some ⟨N + 2, 0, none⟩) 1 1, .slice none 0 0] 26 (0, 0))) (.cells #[.slice (some ⟨N + 3 + 1, 0, none⟩) 1 1, .slice (some ⟨N + 3 + 2, 0, none⟩) 1 1, .slice none 0 0] 26 (0, 0))
      rw [World.size_alloc, s4] at this
      exact (Below.heap_alloc _ _ _ (by simp; omega)).trans ((Below.heap_alloc _ _ _ (by simp; omega)).trans this)
    · have := heap_alloc_new ((w4.alloc (.cells #[.slice (some ⟨N + 1, 0, none⟩) 1 1, .slice (some ⟨N + 2, 0, none⟩) 1 1, .slice none 0 0] 26 (0, 0))).alloc (.cells #[.slice (some ⟨N + 3 + 1, 0, none⟩) 1 1, .slice (some ⟨N + 3 + 2, 0, none⟩) 1 1, .slice none 0 0] 26 (0, 0))) (.cells #[.slice (some ⟨N + 6 + 1, 0, none⟩) 1 1, .slice (some ⟨N + 6 + 2, 0, none⟩) 1 1, .slice none 0 0] 26 (0, 0))
      rw [World.size_alloc, World.size_alloc, s4] at this
      exact (Below.heap_alloc _ _ _ (by simp; omega)).trans this
    · have := heap_alloc_new (((w4.alloc (.cells #[.slice (some ⟨N + 1, 0, none⟩) 1 1, .slice (some ⟨N + 2, 0, none⟩) 1 1, .slice none 0 0] 26 (0, 0))).alloc (.cells #[.slice (some ⟨N + 3 + 1, 0, none⟩) 1 1, .slice (some ⟨N + 3 + 2, 0, none⟩) 1 1, .slice none 0 0] 26 (0, 0))).alloc (.cells #[.slice (some ⟨N + 6 + 1, 0, none⟩) 1 1, .slice (some ⟨N + 6 + 2, 0, none⟩) 1 1, .slice none 0 0] 26 (0, 0))) (.cells #[.slice (some ⟨N + 9 + 1, 0, none⟩) 1 1, .slice (some ⟨N + 9 + 2, 0, none⟩) 1 1, .slice none 0 0] 26 (0, 0))
      rw [World.size_alloc, World.size_alloc, World.size_alloc, s4] at this
      exact this
    · exact h1.stay ((((Below.refl _ w4).alloc (Nat.le_refl _) _).alloc (by simp) _).alloc (by simp; omega) _ |>.alloc (by simp; omega) _)
  have BA : Below w.heap.size w wA := by
    rw [hwA]
    exact P4.out.2.trans ((((Below.refl _ w4).alloc (Nat.le_refl _) _).alloc (by simp) _).alloc (by simp; omega) _ |>.alloc (by simp; omega) _ |>.mono P4.out.2.size)
  have sA : wA.heap.size = N + 16 := by rw [hwA]; simp [s4]
  rw [← hwA]
  have HA := Lib.hid (And.intro hA BA)
  clear hwA hA BA P4 s4
  have c0 : wA.cell? ⟨N + 12, 0, none⟩ = some (.slice (some ⟨N + 1, 0, none⟩) 1 1) := by rw [World.cell?, HA.out.1.get 0 rfl]; rfl
  have f0 : wA.frozen? ⟨N + 1, 1, none⟩ = false := by rw [World.frozen?, HA.out.1.get 10 rfl]; rfl
  have f1 : wA.cell? ⟨N + 1, 1, none⟩ = some (.int .i64 1) := by rw [World.cell?, HA.out.1.get 10 rfl]; rfl
  go_upto_region 3 with fail
  have hB := HA.out.1.upd (Save.set (b := N + 1) (i := 1) (v := .int .i64 2)) (setCell_blk (.int .i64 2) (HA.out.1.get 10 rfl)) 10 (by simp [List.eraseIdx])
  have bB : Below w.heap.size w (wA.setCell ⟨N + 1, 1, none⟩ (.int .i64 2)) := HA.out.2.trans (Save.set.below HA.out.2.size (fun k hk => by have := hN.out; omega))
  have sB : (wA.setCell ⟨N + 1, 1, none⟩ (.int .i64 2)).heap.size = N + 16 := by rw [← sA]; simp [World.setCell]
  generalize wA.setCell ⟨N + 1, 1, none⟩ (.int .i64 2) = wB at hB bB sB ⊢
  have HB := Lib.hid (And.intro hB bB)
  have SB := Lib.hid sB
  clear hB bB HA sA sB c0 f0 f1
  have HO := Lib.hid (vown_of_blk (f := cPt) (n := 5) (B := 0) (l := [ptv1 i1 i0 i16 [] none 0]) cPt_len (Nat.zero_le _) (by decide) (HB.out.1.get 10 rfl) rfl)
  have c1 : wB.cell? ⟨N + 13, 1, none⟩ = some (.slice (some ⟨N + 3 + 2, 0, none⟩) 1 1) := by rw [World.cell?, HB.out.1.get 2 rfl]; rfl
  go_upto_region 4 with (first
    | (with_reducible refine wpList_value (o := ⟨some 17, .buildSlice _ _ _, _, _, _, _⟩) (by with_unfolding_all rfl) (build1c etP (.tmp 16) (.agg #[.int .i64 1, .int .i64 16, .int .i64 16, .bool false, .slice none 0 0]) #[.int .i64 1, .int .i64 16, .int .i64 16, .bool false, .slice none 0 0] rfl (by with_unfolding_all rfl) (by with_unfolding_all rfl) (by with_unfolding_all rfl) (by decide) _) ?_)
    | ((refine wpList_vapp1 (o := ⟨some 18, .call _, _, _, _, _⟩) etP cPt_len cPt_one (y := ptv1 i1 i16 i16 [] none 0) (.tmp 14) (.tmp 17) (by with_unfolding_all rfl) (by with_unfolding_all rfl) HO.out (by with_unfolding_all rfl) (by decide) (Nat.zero_le _) (by with_unfolding_all rfl) (by with_unfolding_all rfl) ?_)
       intro a4 k4 w5 hO4 hg4 hn4
       have h5 := (Blks.save (fun p hp => HB.out.1 p (List.mem_of_mem_eraseIdx (i := 10) hp)) (Save.row hg4) (by simp [List.eraseIdx]))
       have f2 : w5.frozen? ⟨N + 13, 1, none⟩ = false := by rw [World.frozen?, h5.get 2 rfl]; rfl
       have f3 : w5.cell? ⟨N + 13, 1, none⟩ = some (.slice (some ⟨N + 3 + 2, 0, none⟩) 1 1) := by rw [World.cell?, h5.get 2 rfl]; rfl))
  have hq4 : ∀ g, blk a4 = some g → g = N + 5 ∨ N + 16 ≤ g := fun g hg => by
    rcases hn4 g hg with h | h
    · left; simp [blk] at h; omega
    · right; rw [SB.out] at h; exact h
  have b5 : Below w.heap.size w w5 := HB.out.2.trans ((Save.row hg4).below HB.out.2.size (fun k hk => by have := hN.out; omega))
  have z5 : N + 16 ≤ w5.heap.size := by rw [← SB.out]; exact hg4.size
  have hC := h5.upd (Save.set (b := N + 13) (i := 1) (v := .slice a4 2 k4)) (setCell_blk (.slice a4 2 k4) (h5.get 2 rfl)) 2 (by simp [List.eraseIdx])
  have bC : Below w.heap.size w (w5.setCell ⟨N + 13, 1, none⟩ (.slice a4 2 k4)) := b5.trans (Save.set.below b5.size (fun k hk => by have := hN.out; omega))
  have oC := hO4.save (Save.set (b := N + 13) (i := 1) (v := .slice a4 2 k4)) (fun g hg => by have := hq4 g hg; omega)
  have zC : N + 16 ≤ (w5.setCell ⟨N + 13, 1, none⟩ (.slice a4 2 k4)).heap.size := by simpa [World.setCell] using z5
  generalize w5.setCell ⟨N + 13, 1, none⟩ (.slice a4 2 k4) = wC at hC bC oC zC ⊢
  have HC := Lib.hid (And.intro hC (And.intro bC (And.intro oC (And.intro zC hq4))))
  clear hC bC oC zC HB SB c1 HO hq4 b5 z5 h5 f2 f3 hO4 hg4 hn4
  have HO := Lib.hid (vown_of_blk (f := cPt) (n := 5) (B := 0) (l := [ptv1 i1 i0 i16 [] none 0]) cPt_len (Nat.zero_le _) (by decide) (HC.out.1.get 8 rfl) rfl)
  have c1 : wC.cell? ⟨N + 14, 1, none⟩ = some (.slice (some ⟨N + 6 + 2, 0, none⟩) 1 1) := by rw [World.cell?, HC.out.1.get 3 rfl]; rfl
  go_upto_region 5 with (first
    | (with_reducible refine wpList_value (o := ⟨some 24, .buildSlice _ _ _, _, _, _, _⟩) (by with_unfolding_all rfl) (build1c etP (.tmp 23) (.agg #[.int .i64 1, .int .i64 8, .int .i64 16, .bool false, .slice none 0 0]) #[.int .i64 1, .int .i64 8, .int .i64 16, .bool false, .slice none 0 0] rfl (by with_unfolding_all rfl) (by with_unfolding_all rfl) (by with_unfolding_all rfl) (by decide) _) ?_)
    | ((refine wpList_vapp1 (o := ⟨some 25, .call _, _, _, _, _⟩) etP cPt_len cPt_one (y := ptv1 i1 i8 i16 [] none 0) (.tmp 21) (.tmp 24) (by with_unfolding_all rfl) (by with_unfolding_all rfl) HO.out (by with_unfolding_all rfl) (by decide) (Nat.zero_le _) (by with_unfolding_all rfl) (by with_unfolding_all rfl) ?_)
       intro a7 k7 w5 hO4 hg4 hn4
       have h5 := (Blks.save (fun p hp => HC.out.1 p (List.mem_of_mem_eraseIdx (i := 8) hp)) (Save.row hg4) (by simp [List.eraseIdx]))
       have f2 : w5.frozen? ⟨N + 14, 1, none⟩ = false := by rw [World.frozen?, h5.get 3 rfl]; rfl
       have f3 : w5.cell? ⟨N + 14, 1, none⟩ = some (.slice (some ⟨N + 6 + 2, 0, none⟩) 1 1) := by rw [World.cell?, h5.get 3 rfl]; rfl))
  have hq7 : ∀ g, blk a7 = some g → g = N + 8 ∨ N + 16 ≤ g := fun g hg => by
    rcases hn4 g hg with h | h
    · left; simp [blk] at h; omega
    · right; exact Nat.le_trans HC.out.2.2.2.1 h
  have b5 : Below w.heap.size w w5 := HC.out.2.1.trans ((Save.row hg4).below HC.out.2.1.size (fun k hk => by have := hN.out; omega))
  have z5 : N + 16 ≤ w5.heap.size := Nat.le_trans HC.out.2.2.2.1 hg4.size
  have o5 := HC.out.2.2.1.save (Save.row hg4) (fun g hg => by have := HC.out.2.2.2.2 g hg; omega)
  have hD := h5.upd (Save.set (b := N + 14) (i := 1) (v := .slice a7 2 k7)) (setCell_blk (.slice a7 2 k7) (h5.get 3 rfl)) 3 (by simp [List.eraseIdx])
  have bD : Below w.heap.size w (w5.setCell ⟨N + 14, 1, none⟩ (.slice a7 2 k7)) := b5.trans (Save.set.below b5.size (fun k hk => by have := hN.out; omega))
  have oD := o5.save (Save.set (b := N + 14) (i := 1) (v := .slice a7 2 k7)) (fun g hg => by have := HC.out.2.2.2.2 g hg; omega)
  have oD7 := hO4.save (Save.set (b := N + 14) (i := 1) (v := .slice a7 2 k7)) (fun g hg => by have := hq7 g hg; omega)
  have zD : N + 16 ≤ (w5.setCell ⟨N + 14, 1, none⟩ (.slice a7 2 k7)).heap.size := by simpa [World.setCell] using z5
  generalize w5.setCell ⟨N + 14, 1, none⟩ (.slice a7 2 k7) = wD at hD bD oD oD7 zD ⊢
  have HD := Lib.hid (And.intro hD (And.intro bD (And.intro oD (And.intro oD7 (And.intro zD (And.intro HC.out.2.2.2.2 hq7))))))
  clear hD bD oD oD7 zD HC c1 HO hq7 b5 z5 h5 o5 f2 f3 hO4 hg4 hn4
  have c1 : wD.cell? ⟨N + 15, 1, none⟩ = some (.slice (some ⟨N + 9 + 2, 0, none⟩) 1 1) := by rw [World.cell?, HD.out.1.get 4 rfl]; rfl
  have f4 : wD.frozen? ⟨N + 9 + 2, 4, none⟩ = false := by rw [World.frozen?, HD.out.1.get 6 rfl]; rfl
  have f5 : wD.cell? ⟨N + 9 + 2, 4, none⟩ = some (.slice none 0 0) := by rw [World.cell?, HD.out.1.get 6 rfl]; rfl
  have m17 : ∀ w : World, (Instr.makeSlice 41 (.int .i64 17) (.int .i64 17)).run Try.prog w = .ok (.slice (some ⟨w.heap.size, 0, none⟩) 17 17) (w.alloc (.cells #[.int .u8 0, .int .u8 0, .int .u8 0, .int .u8 0, .int .u8 0, .int .u8 0, .int .u8 0, .int .u8 0, .int .u8 0, .int .u8 0, .int .u8 0, .int .u8 0, .int .u8 0, .int .u8 0, .int .u8 0, .int .u8 0, .int .u8 0] 5)) := fun _ => by kernel_rfl
  have g1 : wD.cell? ⟨N + 12 + 1 + 1 + 1, 1, none⟩ = some (.slice (some ⟨N + 9 + 2, 0, none⟩) 1 1) := c1
  have g2 : (wD.alloc (.cells #[.int .u8 0, .int .u8 0, .int .u8 0, .int .u8 0, .int .u8 0, .int .u8 0, .int .u8 0, .int .u8 0, .int .u8 0, .int .u8 0, .int .u8 0, .int .u8 0, .int .u8 0, .int .u8 0, .int .u8 0, .int .u8 0, .int .u8 0] 5)).drew.cell? ⟨N + 12 + 1 + 1 + 1, 1, none⟩ = some (.slice (some ⟨N + 9 + 2, 0, none⟩) 1 1) := keepA _ c1
  have g3 : (wD.alloc (.cells #[.int .u8 0, .int .u8 0, .int .u8 0, .int .u8 0, .int .u8 0, .int .u8 0, .int .u8 0, .int .u8 0, .int .u8 0, .int .u8 0, .int .u8 0, .int .u8 0, .int .u8 0, .int .u8 0, .int .u8 0, .int .u8 0, .int .u8 0] 5)).drew.frozen? ⟨N + 9 + 2, 4, none⟩ = false := by
    show ((wD.alloc (.cells #[.int .u8 0, .int .u8 0, .int .u8 0, .int .u8 0, .int .u8 0, .int .u8 0, .int .u8 0, .int .u8 0, .int .u8 0, .int .u8 0, .int .u8 0, .int .u8 0, .int .u8 0, .int .u8 0, .int .u8 0, .int .u8 0, .int .u8 0] 5))).frozen? _ = false
    rw [World.frozen?, Below.heap_alloc _ _ _ (by show N + 9 + 2 < _; have := HD.out.2.2.2.2.1; omega)]
    exact f4
  have g4 : (wD.alloc (.cells #[.int .u8 0, .int .u8 0, .int .u8 0, .int .u8 0, .int .u8 0, .int .u8 0, .int .u8 0, .int .u8 0, .int .u8 0, .int .u8 0, .int .u8 0, .int .u8 0, .int .u8 0, .int .u8 0, .int .u8 0, .int .u8 0, .int .u8 0] 5)).drew.cell? ⟨N + 9 + 2, 4, none⟩ = some (.slice none 0 0) := keepA _ f5
  go_wp2_with fail
  go_region
  obtain ⟨z, hz⟩ : ∃ z, Hid (z = wD.heap.size) := ⟨_, rfl⟩
  have hA1 : Below wD.heap.size wD (wD.alloc (.cells #[.int .u8 0, .int .u8 0, .int .u8 0, .int .u8 0, .int .u8 0, .int .u8 0, .int .u8 0, .int .u8 0, .int .u8 0, .int .u8 0, .int .u8 0, .int .u8 0, .int .u8 0, .int .u8 0, .int .u8 0, .int .u8 0, .int .u8 0] 5)) := (Below.refl _ wD).alloc (Nat.le_refl _) _
  have hz1 : (wD.alloc (.cells #[.int .u8 0, .int .u8 0, .int .u8 0, .int .u8 0, .int .u8 0, .int .u8 0, .int .u8 0, .int .u8 0, .int .u8 0, .int .u8 0, .int .u8 0, .int .u8 0, .int .u8 0, .int .u8 0, .int .u8 0, .int .u8 0, .int .u8 0] 5)).heap[z]? = some (.cells #[.int .u8 0, .int .u8 0, .int .u8 0, .int .u8 0, .int .u8 0, .int .u8 0, .int .u8 0, .int .u8 0, .int .u8 0, .int .u8 0, .int .u8 0, .int .u8 0, .int .u8 0, .int .u8 0, .int .u8 0, .int .u8 0, .int .u8 0] 5 (0, 0)) := by rw [hz.out]; exact heap_alloc_new _ _
  have h6 := Blks.cons hz1 (HD.out.1.stay hA1)
  have hE := h6.upd (Save.set (b := N + 11) (i := 4) (v := .slice (some ⟨wD.heap.size, 0, none⟩) 17 17)) (setCell_blk (.slice (some ⟨wD.heap.size, 0, none⟩) 17 17) (h6.get 7 rfl)) 7 (by
    have := HD.out.2.2.2.2.1
    have := hz.out
    simp [List.eraseIdx]; omega)
  have bE := HD.out.2.1.trans ((hA1.mono HD.out.2.1.size).trans (Save.set (b := N + 11) (i := 4) (v := .slice (some ⟨wD.heap.size, 0, none⟩) 17 17) |>.below (Nat.le_trans HD.out.2.1.size hA1.size) (fun k hk => by have := hN.out; omega)))
  have oE := (HD.out.2.2.1.stay hA1).save (Save.set (b := N + 11) (i := 4) (v := .slice (some ⟨wD.heap.size, 0, none⟩) 17 17)) (fun g hg => by have := HD.out.2.2.2.2.2.1 g hg; omega)
  have oE7 := (HD.out.2.2.2.1.stay hA1).save (Save.set (b := N + 11) (i := 4) (v := .slice (some ⟨wD.heap.size, 0, none⟩) 17 17)) (fun g hg => by have := HD.out.2.2.2.2.2.2 g hg; omega)
  obtain ⟨wE, hwE⟩ : ∃ wE, wE = ((wD.alloc (.cells #[.int .u8 0, .int .u8 0, .int .u8 0, .int .u8 0, .int .u8 0, .int .u8 0, .int .u8 0, .int .u8 0, .int .u8 0, .int .u8 0, .int .u8 0, .int .u8 0, .int .u8 0, .int .u8 0, .int .u8 0, .int .u8 0, .int .u8 0] 5)).setCell ⟨N + 9 + 2, 4, none⟩ (.slice (some ⟨wD.heap.size, 0, none⟩) 17 17)).drew := ⟨_, rfl⟩
  have HE : Hid (AwkS w wE N ⟨some ⟨N + 1, 0, none⟩, [win22], 1, some ⟨N + 2, 0, none⟩, [ptv1 i1 i0 i16 [] none 0], 1, none, [], 0⟩ ⟨some ⟨N + 4, 0, none⟩, [win21], 1, a4, [ptv1 i1 i0 i16 [] none 0, ptv1 i1 i16 i16 [] none 0], k4, none, [], 0⟩
      ⟨some ⟨N + 7, 0, none⟩, [win21], 1, a7, [ptv1 i1 i0 i16 [] none 0, ptv1 i1 i8 i16 [] none 0], k7, none, [], 0⟩ ⟨some ⟨N + 10, 0, none⟩, [win21], 1, some ⟨N + 11, 0, none⟩, [ptv1 i1 i0 i16 (List.replicate 17 0) (some ⟨z, 0, none⟩) 17], 1, none, [], 0⟩) := by
    have eE : wE = ((wD.alloc (.cells #[.int .u8 0, .int .u8 0, .int .u8 0, .int .u8 0, .int .u8 0, .int .u8 0, .int .u8 0, .int .u8 0, .int .u8 0, .int .u8 0, .int .u8 0, .int .u8 0, .int .u8 0, .int .u8 0, .int .u8 0, .int .u8 0, .int .u8 0] 5)).setCell ⟨N + 11, 4, none⟩ (.slice (some ⟨wD.heap.size, 0, none⟩) 17 17)).drew := hwE
    have hE := hE.drew
    rw [← eE] at hE
    have oE : VOwn cPt 5 43 0 wE a4 [ptv1 i1 i0 i16 [] none 0, ptv1 i1 i16 i16 [] none 0] k4 := by rw [hwE]; exact oE.stay (Below.refl _ _).drew
    have oE7 : VOwn cPt 5 43 0 wE a7 [ptv1 i1 i0 i16 [] none 0, ptv1 i1 i8 i16 [] none 0] k7 := by rw [hwE]; exact oE7.stay (Below.refl _ _).drew
    have bE : Below w.heap.size w wE := by rw [hwE]; exact bE.drew
    refine ⟨at_of (B1 := 0) (B2 := 0) (vown_of_blk (l := [win22]) cWin_len (Nat.zero_le _) (by decide) (hE.get 4 rfl) rfl) (vown_of_blk (l := [ptv1 i1 i0 i16 [] none 0]) cPt_len (Nat.zero_le _) (by decide) (hE.get 10 rfl) rfl) (VOwn.nil_ cCh 5 0 0 _) ?_,
      at_of (B1 := 0) (vown_of_blk (l := [win21]) cWin_len (Nat.zero_le _) (by decide) (hE.get 9 rfl) rfl) oE (VOwn.nil_ cCh 5 0 0 _) ?_,
      at_of (B1 := 0) (vown_of_blk (l := [win21]) cWin_len (Nat.zero_le _) (by decide) (hE.get 8 rfl) rfl) oE7 (VOwn.nil_ cCh 5 0 0 _) ?_,
      at_of (B1 := 0) (B2 := 0) (vown_of_blk (l := [win21]) cWin_len (Nat.zero_le _) (by decide) (hE.get 7 rfl) rfl) (vown_of_blk (l := [ptv1 i1 i0 i16 (List.replicate 17 0) (some ⟨z, 0, none⟩) 17]) cPt_len (Nat.zero_le _) (by simp) (hE.get 0 rfl) (by rw [hz.out]; rfl)) (VOwn.nil_ cCh 5 0 0 _) ?_,
      hE.get 5 rfl, hE.get 3 rfl, hE.get 2 rfl, hE.get 6 rfl, bE⟩
    · intro x hx
      obtain rfl : x = ptv1 i1 i0 i16 [] none 0 := by simpa using hx
      exact (Cit.Own.nil 5 0 _).isRow
    · intro x hx
      rcases (show x = ptv1 i1 i0 i16 [] none 0 ∨ x = ptv1 i1 i16 i16 [] none 0 by simpa using hx) with rfl | rfl <;> exact (Cit.Own.nil 5 0 _).isRow
    · intro x hx
      rcases (show x = ptv1 i1 i0 i16 [] none 0 ∨ x = ptv1 i1 i8 i16 [] none 0 by simpa using hx) with rfl | rfl <;> exact (Cit.Own.nil 5 0 _).isRow
    · intro x hx
      obtain rfl : x = ptv1 i1 i0 i16 (List.replicate 17 0) (some ⟨z, 0, none⟩) 17 := by simpa using hx
      exact (vown_of_blk (f := cb) (E := 5) (B := 0) (l := List.replicate 17 0) cb_len (Nat.zero_le _) (by decide) (hE.get 1 rfl) rfl).own.isRow
  rw [← hwE]
  clear hwE hz hA1 hz1 h6 hE bE oE oE7 HD c1 f4 f5 g1 g2 g3 g4 m17
  obtain ⟨A, hA⟩ : ∃ V : CfgV, Hid (V = ⟨some ⟨N + 1, 0, none⟩, [win22], 1, some ⟨N + 2, 0, none⟩, [ptv1 i1 i0 i16 [] none 0], 1, none, [], 0⟩) := ⟨_, rfl⟩
  have eA : Hid (errs A = [90]) := by rw [Hid, hA.out]; kernel_rfl
  have sA : Hid (SmallV A) := by rw [hA.out]; exact small_of_len (by simp) (by simp) (by simp) (by rfl)
  obtain ⟨B, hB⟩ : ∃ V : CfgV, Hid (V = ⟨some ⟨N + 4, 0, none⟩, [win21], 1, a4, [ptv1 i1 i0 i16 [] none 0, ptv1 i1 i16 i16 [] none 0], k4, none, [], 0⟩) := ⟨_, rfl⟩
  have eB : Hid (errs B = [120]) := by rw [Hid, hB.out]; kernel_rfl
  have sB : Hid (SmallV B) := by rw [hB.out]; exact small_of_len (by simp) (by simp) (by simp) (by rfl)
  obtain ⟨C, hC⟩ : ∃ V : CfgV, Hid (V = ⟨some ⟨N + 7, 0, none⟩, [win21], 1, a7, [ptv1 i1 i0 i16 [] none 0, ptv1 i1 i8 i16 [] none 0], k7, none, [], 0⟩) := ⟨_, rfl⟩
  have eC : Hid (errs C = [120, 121]) := by rw [Hid, hC.out]; kernel_rfl
  have sC : Hid (SmallV C) := by rw [hC.out]; exact small_of_len (by simp) (by simp) (by simp) (by rfl)
  obtain ⟨D, hD⟩ : ∃ V : CfgV, Hid (V = ⟨some ⟨N + 10, 0, none⟩, [win21], 1, some ⟨N + 11, 0, none⟩, [ptv1 i1 i0 i16 (List.replicate 17 0) (some ⟨z, 0, none⟩) 17], 1, none, [], 0⟩) := ⟨_, rfl⟩
  have eD : Hid (errs D = [80]) := by rw [Hid, hD.out]; kernel_rfl
  have sD : Hid (SmallV D) := by rw [hD.out]; exact small_of_len (by simp) (by simp) (by simp) (by rfl)
  rw [← hA.out, ← hB.out, ← hC.out, ← hD.out] at HE
  have HC := Lib.hid (shown12x_calls wE _ rfl)
  go_wp2_with fail
  refine (HC.out).mono ?_
  rintro e w6 ⟨rfl, p1, p2, s1, hb1⟩
  have hi := is_calls w6 (cfgS wE.heap.size) (cfgS_at p1 p2) (cfgS_small _) none [] 0 (Vec.nil_ _)
  rw [decide_eq_true (cfgS_errs _)] at hi
  have HI := Lib.hid hi
  have H6 := Lib.hid (HE.out.stay hb1)
  clear hi p1 p2 s1 hb1 HC HE
  go_wp2_with fail
  refine (HI.out).mono ?_
  rintro e w7 ⟨rfl, hb1⟩
  have H7 := Lib.hid (H6.out.stay hb1)
  clear hb1 HI H6
  obtain ⟨c0, c1, c2⟩ := in_of H7.out.xa
  go_wp2_with fail
  refine (is_lit w7 A H7.out.a sA.out #[.int .i64 90] [90] rfl (by decide) eA.out 1 rfl _ rfl).mono ?_
  rintro e w8 ⟨rfl, hb1⟩
  have H8 := Lib.hid (H7.out.stay hb1)
  clear hb1 H7 c0 c1 c2
  obtain ⟨c0, c1, c2⟩ := in_of H8.out.xb
  go_wp2_with fail
  refine (is_lit w8 B H8.out.b sB.out #[.int .i64 120] [120] rfl (by decide) eB.out 1 rfl _ rfl).mono ?_
  rintro e w9 ⟨rfl, hb1⟩
  have H9 := Lib.hid (H8.out.stay hb1)
  clear hb1 H8 c0 c1 c2
  obtain ⟨c0, c1, c2⟩ := in_of H9.out.xc
  go_wp2_with fail
  refine (is_lit w9 C H9.out.c sC.out #[.int .i64 120, .int .i64 121] [120, 121] rfl (by decide) eC.out 2 rfl _ rfl).mono ?_
  rintro e w10 ⟨rfl, hb1⟩
  have H10 := Lib.hid (H9.out.stay hb1)
  clear hb1 H9 c0 c1 c2
  obtain ⟨c0, c1, c2⟩ := in_of H10.out.xd
  go_wp2_with fail
  refine (is_lit w10 D H10.out.d sD.out #[.int .i64 80] [80] rfl (by decide) eD.out 1 rfl _ rfl).mono ?_
  rintro e w11 ⟨rfl, hb1⟩
  have H11 := Lib.hid (H10.out.stay hb1)
  clear hb1 H10 c0 c1 c2
  obtain ⟨K, hK⟩ : ∃ K, Hid (K = w11.heap.size) := ⟨_, rfl⟩
  have hNK : N + 16 ≤ K := by have := (Array.getElem?_eq_some_iff.1 H11.out.xd).1; rw [hK.out]; omega
  have HL := Lib.hid (And.intro (Blks.cons H11.out.xa (Blks.cons H11.out.xb (Blks.cons H11.out.xc (Blks.nil w11)))) H11.out.low)
  have HC := Lib.hid (shown12x_calls w11 K hK.out.symm)
  clear H11
  go_wp2_with fail
  refine (HC.out).mono ?_
  rintro e w12 ⟨rfl, p1, p2, s1, hb1⟩
  have HL2 := Lib.hid (And.intro (Blks.cons p1 (Blks.cons p2 (HL.out.1.stay hb1))) (HL.out.2.trans (hb1.mono HL.out.2.size)))
  have HC := Lib.hid (shown12x_calls w12 (K + 3) s1)
  clear p1 p2 s1 hb1 HL
  go_wp2_with fail
  refine (HC.out).mono ?_
  rintro e w13 ⟨rfl, p1, p2, s1, hb1⟩
  have HL3 := Lib.hid (And.intro (Blks.cons p1 (Blks.cons p2 (HL2.out.1.stay hb1))) (HL2.out.2.trans (hb1.mono HL2.out.2.size)))
  have HC := Lib.hid (shown12x_calls w13 (K + 6) s1)
  clear p1 p2 s1 hb1 HL2
  go_wp2_with fail
  refine (HC.out).mono ?_
  rintro e w14 ⟨rfl, p1, p2, s1, hb1⟩
  have HL4 := Lib.hid (And.intro (Blks.cons p1 (Blks.cons p2 (HL3.out.1.stay hb1))) (HL3.out.2.trans (hb1.mono HL3.out.2.size)))
  clear p1 p2 s1 hb1 HL3 HC
  go_upto_region 9 with (first
    | ((with_reducible refine wpList_storeB (o := ⟨none, .store _ (.tmp 1) _, _, _, _, _⟩) rowCfg (.tmp 1) (.tmp 59) (by with_unfolding_all rfl) (by with_unfolding_all rfl) (by with_unfolding_all rfl) (by with_unfolding_all rfl) (by with_unfolding_all rfl) (HL4.out.1.get 6 rfl) (by with_unfolding_all rfl) (by with_unfolding_all rfl) (by with_unfolding_all rfl) ?_)
       intro w15 hg15 hs15
       have HL5 := Lib.hid (And.intro (HL4.out.1.upd hs15 hg15 6 (by simp [List.eraseIdx]; omega)) (HL4.out.2.trans (hs15.below HL4.out.2.size (fun k hk => by have := hN.out; omega))))
       clear hg15 hs15 HL4)
    | ((with_reducible refine wpList_storeB (o := ⟨none, .store _ (.tmp 2) _, _, _, _, _⟩) rowCfg (.tmp 2) (.tmp 60) (by with_unfolding_all rfl) (by with_unfolding_all rfl) (by with_unfolding_all rfl) (by with_unfolding_all rfl) (by with_unfolding_all rfl) (HL5.out.1.get 7 rfl) (by with_unfolding_all rfl) (by with_unfolding_all rfl) (by with_unfolding_all rfl) ?_)
       intro w16 hg15 hs15
       have HL6 := Lib.hid (And.intro (HL5.out.1.upd hs15 hg15 7 (by simp [List.eraseIdx]; omega)) (HL5.out.2.trans (hs15.below HL5.out.2.size (fun k hk => by have := hN.out; omega))))
       clear hg15 hs15 HL5)
    | ((with_reducible refine wpList_storeB (o := ⟨none, .store _ (.tmp 3) _, _, _, _, _⟩) rowCfg (.tmp 3) (.tmp 61) (by with_unfolding_all rfl) (by with_unfolding_all rfl) (by with_unfolding_all rfl) (by with_unfolding_all rfl) (by with_unfolding_all rfl) (HL6.out.1.get 8 rfl) (by with_unfolding_all rfl) (by with_unfolding_all rfl) (by with_unfolding_all rfl) ?_)
       intro w17 hg15 hs15
       have HL7 := Lib.hid (And.intro (HL6.out.1.upd hs15 hg15 8 (by simp [List.eraseIdx]; omega)) (HL6.out.2.trans (hs15.below HL6.out.2.size (fun k hk => by have := hN.out; omega))))
       clear hg15 hs15 HL6))
  have f0 : w17.frozen? ⟨N + 12, 0, none⟩ = false := by rw [World.frozen?, HL7.out.1.get 2 rfl]; rfl
  have f1 : w17.cell? ⟨N + 12, 0, none⟩ = some (.slice (some ⟨K + 1, 0, none⟩) 1 1) := by rw [World.cell?, HL7.out.1.get 2 rfl]; rfl
  go_upto_region 10 with fail
  have h8 := HL7.out.1.upd (Save.set (b := N + 12) (i := 0) (v := .slice none 0 0)) (setCell_blk (.slice none 0 0) (HL7.out.1.get 2 rfl)) 2 (by simp [List.eraseIdx]; omega)
  have b8 := HL7.out.2.trans (Save.set (b := N + 12) (i := 0) (v := .slice none 0 0) |>.below HL7.out.2.size (fun k hk => by have := hN.out; omega))
  generalize w17.setCell ⟨N + 12, 0, none⟩ (.slice none 0 0) = w18 at h8 b8 ⊢
  have HL8 := Lib.hid (And.intro h8 b8)
  clear h8 b8 f0 f1 HL7
  have c1 : w18.cell? ⟨N + 13, 1, none⟩ = some (.slice (some ⟨K + 3 + 2, 0, none⟩) 1 1) := by rw [World.cell?, HL8.out.1.get 2 rfl]; rfl
  have f0 : w18.frozen? ⟨K + 3 + 2, 2, none⟩ = false := by rw [World.frozen?, HL8.out.1.get 6 rfl]; rfl
  have f1 : w18.cell? ⟨K + 3 + 2, 2, none⟩ = some (.int .i64 16) := by rw [World.cell?, HL8.out.1.get 6 rfl]; rfl
  go_upto_region 11 with fail
  have h9 := HL8.out.1.upd (Save.set (b := K + 3 + 2) (i := 2) (v := .int .i64 12)) (setCell_blk (.int .i64 12) (HL8.out.1.get 6 rfl)) 6 (by simp [List.eraseIdx]; omega)
  have b9 := HL8.out.2.trans (Save.set (b := K + 3 + 2) (i := 2) (v := .int .i64 12) |>.below HL8.out.2.size (fun k hk => by have := hN.out; omega))
  generalize w18.setCell ⟨K + 3 + 2, 2, none⟩ (.int .i64 12) = w19 at h9 b9 ⊢
  have HL9 := Lib.hid (And.intro h9 b9)
  clear h9 b9 f0 f1 c1 HL8
  obtain ⟨wF, hwF⟩ : ∃ wF, wF = w19.alloc (.cells #[.int .i64 1, .int .i64 1, .int .i64 2, .int .i64 1, .int .i64 1] 54) := ⟨_, rfl⟩
  obtain ⟨y, hy⟩ : ∃ y, Hid (y = w19.heap.size) := ⟨_, rfl⟩
  have hBF : Below w19.heap.size w19 wF := by rw [hwF]; exact (Below.refl _ w19).alloc (Nat.le_refl _) _
  have hyF : wF.heap[y]? = some (.cells #[.int .i64 1, .int .i64 1, .int .i64 2, .int .i64 1, .int .i64 1] 54 (0, 0)) := by rw [hwF, hy.out]; exact heap_alloc_new _ _
  have hyK : K + 8 < y := by rw [hy.out]; exact (Array.getElem?_eq_some_iff.1 (HL9.out.1.get 5 rfl)).1
  have hF := Blks.cons hyF (HL9.out.1.stay hBF)
  have f0 : (w19.alloc (.cells #[.int .i64 1, .int .i64 1, .int .i64 2, .int .i64 1, .int .i64 1] 54)).frozen? ⟨N + 14, 2, none⟩ = false := by rw [← hwF, World.frozen?, hF.get 3 rfl]; rfl
  have f1 : (w19.alloc (.cells #[.int .i64 1, .int .i64 1, .int .i64 2, .int .i64 1, .int .i64 1] 54)).cell? ⟨N + 14, 2, none⟩ = some (.slice none 0 0) := by rw [← hwF, World.cell?, hF.get 3 rfl]; rfl
  go_upto_region 12 with ((with_reducible refine wpList_value (o := ⟨some 69, .buildSlice _ _ _, _, _, _, _⟩) (by with_unfolding_all rfl) (build1c etC (.tmp 68) (.agg #[.int .i64 1, .int .i64 1, .int .i64 2, .int .i64 1, .int .i64 1]) #[.int .i64 1, .int .i64 1, .int .i64 2, .int .i64 1, .int .i64 1] rfl (by with_unfolding_all rfl) (by with_unfolding_all rfl) (by with_unfolding_all rfl) (by decide) _) ?_))
  have hG := hF.upd (Save.set (b := N + 14) (i := 2) (v := .slice (some ⟨w19.heap.size, 0, none⟩) 1 1)) (setCell_blk (.slice (some ⟨w19.heap.size, 0, none⟩) 1 1) (hF.get 3 rfl)) 3 (by simp [List.eraseIdx]; omega)
  have bG := HL9.out.2.trans ((hBF.mono HL9.out.2.size).trans (Save.set (b := N + 14) (i := 2) (v := .slice (some ⟨w19.heap.size, 0, none⟩) 1 1) |>.below (Nat.le_trans HL9.out.2.size hBF.size) (fun k hk => by have := hN.out; omega)))
  rw [← hwF]
  rw [← hy.out] at hG bG ⊢
  generalize wF.setCell ⟨N + 14, 2, none⟩ (.slice (some ⟨y, 0, none⟩) 1 1) = wG at hG bG ⊢
  obtain ⟨A, hA⟩ : ∃ V : CfgV, Hid (V = ⟨none, [], 0, some ⟨K + 2, 0, none⟩, [ptv1 i1 i0 i16 [] none 0], 1, none, [], 0⟩) := ⟨_, rfl⟩
  have eA : Hid (errs A = [90]) := by rw [Hid, hA.out]; kernel_rfl
  have sA : Hid (SmallV A) := by rw [hA.out]; exact small_of_len (by simp) (by simp) (by simp) (by rfl)
  obtain ⟨B, hB⟩ : ∃ V : CfgV, Hid (V = ⟨some ⟨K + 3 + 1, 0, none⟩, [win21], 1, some ⟨K + 3 + 2, 0, none⟩, [ptv1 i1 i0 i12 [] none 0], 1, none, [], 0⟩) := ⟨_, rfl⟩
  have eB : Hid (errs B = [80]) := by rw [Hid, hB.out]; kernel_rfl
  have sB : Hid (SmallV B) := by rw [hB.out]; exact small_of_len (by simp) (by simp) (by simp) (by rfl)
  obtain ⟨C, hC⟩ : ∃ V : CfgV, Hid (V = ⟨some ⟨K + 6 + 1, 0, none⟩, [win21], 1, some ⟨K + 6 + 2, 0, none⟩, [ptv1 i1 i0 i16 [] none 0], 1, some ⟨y, 0, none⟩, [(⟨i1, i1, i2, i1, i1⟩ : Ch)], 1⟩) := ⟨_, rfl⟩
  have eC : Hid (errs C = [100]) := by rw [Hid, hC.out]; kernel_rfl
  have sC : Hid (SmallV C) := by rw [hC.out]; exact small_of_len (by simp) (by simp) (by simp) (by rfl)
  have HT : Hid (AwkT w wG N A B C) := by
    rw [hA.out, hB.out, hC.out]
    refine ⟨at_of (B2 := 0) (VOwn.nil_ cWin 2 0 0 _) (vown_of_blk (l := [ptv1 i1 i0 i16 [] none 0]) cPt_len (Nat.zero_le _) (by decide) (hG.get 9 rfl) rfl) (VOwn.nil_ cCh 5 0 0 _) ?_,
      at_of (B1 := 0) (B2 := 0) (vown_of_blk (l := [win21]) cWin_len (Nat.zero_le _) (by decide) (hG.get 7 rfl) rfl) (vown_of_blk (l := [ptv1 i1 i0 i12 [] none 0]) cPt_len (Nat.zero_le _) (by decide) (hG.get 2 rfl) rfl) (VOwn.nil_ cCh 5 0 0 _) ?_,
      at_of (B1 := 0) (B2 := 0) (B3 := 0) (vown_of_blk (l := [win21]) cWin_len (Nat.zero_le _) (by decide) (hG.get 5 rfl) rfl) (vown_of_blk (l := [ptv1 i1 i0 i16 [] none 0]) cPt_len (Nat.zero_le _) (by decide) (hG.get 6 rfl) rfl) (vown_of_blk (l := [(⟨i1, i1, i2, i1, i1⟩ : Ch)]) cCh_len (Nat.zero_le _) (by decide) (hG.get 1 rfl) rfl) ?_,
      hG.get 3 rfl, hG.get 4 rfl, hG.get 0 rfl, bG⟩
    · intro x hx
      obtain rfl : x = ptv1 i1 i0 i16 [] none 0 := by simpa using hx
      exact (Cit.Own.nil 5 0 _).isRow
    · intro x hx
      obtain rfl : x = ptv1 i1 i0 i12 [] none 0 := by simpa using hx
      exact (Cit.Own.nil 5 0 _).isRow
    · intro x hx
      obtain rfl : x = ptv1 i1 i0 i16 [] none 0 := by simpa using hx
      exact (Cit.Own.nil 5 0 _).isRow
  clear hG bG hwF hBF hyF hyK hF f0 f1 HL9
  obtain ⟨c0, c1, c2⟩ := in_of HT.out.xa
  go_wp2_with fail
  refine (is_lit wG A HT.out.a sA.out #[.int .i64 90] [90] rfl (by decide) eA.out 1 rfl _ rfl).mono ?_
  rintro e w20 ⟨rfl, hb1⟩
  have H20 := Lib.hid (HT.out.stay hb1)
  clear hb1 HT c0 c1 c2
  obtain ⟨c0, c1, c2⟩ := in_of H20.out.xb
  go_wp2_with fail
  refine (is_lit w20 B H20.out.b sB.out #[.int .i64 80] [80] rfl (by decide) eB.out 1 rfl _ rfl).mono ?_
  rintro e w21 ⟨rfl, hb1⟩
  have H21 := Lib.hid (H20.out.stay hb1)
  clear hb1 H20 c0 c1 c2
  obtain ⟨c0, c1, c2⟩ := in_of H21.out.xc
  go_wp2_with fail
  refine (is_lit w21 C H21.out.c sC.out #[.int .i64 100] [100] rfl (by decide) eC.out 1 rfl _ rfl).mono ?_
  rintro e w22 ⟨rfl, hb1⟩
  have H22 := Lib.hid (H21.out.stay hb1)
  clear hb1 H21 c0 c1 c2
  have HC := Lib.hid (shown12x_calls w22 _ rfl)
  go_wp2_with fail
  refine (HC.out).mono ?_
  rintro e w23 ⟨rfl, p1, p2, s1, hb1⟩
  have hi := fits_calls w23 (cfgS w22.heap.size) (cfgS_at p1 p2) (cfgS_small _)
  rw [show fitsV (cfgS w22.heap.size) = true by unfold fitsV; rw [cfgS_errs]; rfl] at hi
  have HI := Lib.hid hi
  have H23 := Lib.hid (H22.out.stay hb1)
  clear hi p1 p2 s1 hb1 HC H22
  go_wp2_with fail
  refine (HI.out).mono ?_
  rintro e w24 ⟨rfl, hb1⟩
  have H24 := Lib.hid (H23.out.stay hb1)
  clear hb1 HI H23
  obtain ⟨c0, c1, c2⟩ := in_of H24.out.xc
  have hi := fits_calls w24 C H24.out.c sC.out
  rw [show fitsV C = false by unfold fitsV; rw [eC.out]; rfl] at hi
  have HI := Lib.hid hi
  clear hi
  go_wp2_with fail
  refine (HI.out).mono ?_
  rintro e w25 ⟨rfl, hb1⟩
  have H25 := Lib.hid (H24.out.stay hb1)
  clear hb1 HI H24 c0 c1 c2
  obtain ⟨c0, c1, c2⟩ := in_of H25.out.xc
  have hi := vcheck_calls w25 C H25.out.c sC.out
  rw [show chkV C = 100 by unfold chkV; rw [eC.out]; rfl] at hi
  have HI := Lib.hid hi
  clear hi
  go_wp2_with fail
  refine (HI.out).mono ?_
  rintro e w26 ⟨rfl, hb1⟩
  have H26 := Lib.hid (H25.out.stay hb1)
  clear hb1 HI H25 c0 c1 c2
  go_wp2_with fail
  go_ret
  exact ⟨rfl, H26.out.low⟩
theorem awake_is : AwakeIs := awake12_calls
end Go.Proofs.Ytpnbaapjjchlbaa
