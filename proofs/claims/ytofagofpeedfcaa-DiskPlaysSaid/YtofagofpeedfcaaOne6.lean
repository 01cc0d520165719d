/- Chapter 6's law: one: walked. -/
import Derived.Test.YtofagofpeedfcaaTold6
import Derived.Test.YtofagofpeedfcaaGpMore
namespace Go.Proofs.Ytofagofpeedfcaa
open Go Go.RowKit Go.Cit

/-- What an act does. -/
def actD (D : Dk) (x : Ac) : Dk :=
  if x.kind = 0 ∨ x.kind = 1 ∨ x.kind = 2 then writeT D x.n (secL x.l) else if x.kind = 3 ∨ x.kind = 4 then flushT D else if x.kind = 5 then crashT x.l D
  else if x.kind = 6 then armD D x.n x.l else if x.kind = 7 ∨ x.kind = 8 then startD D else D
theorem secL_len {l : List UInt8} (h : l.length ≤ 6000) : (secL l).length ≤ 6000 := by
  unfold secL
  split
  · rw [List.length_replicate]; decide
  · exact h
/-- What the line of calls leaves. -/
def onSt (w : World) (q : Rl) (D' : Dk) (S : List UInt8) (E : Int) : List Value → World → Prop
  | [], wx => Cit.Alike w wx
  | [v1], wx => ∃ a c, v1 = .slice a S.length c ∧ Cit.Own 5 w.heap.size wx a S c ∧ Below w.heap.size w wx
  | [_, v2], wx => v2 = .int .i64 E ∧ RefAt wx q D' ∧ Save q.Off w wx
  | [_, v2, v3], wx => v2 = .int .i64 E ∧ RefAt wx q D' ∧ Save q.Off w wx ∧ ∃ a c, v3 = .slice a S.length c ∧ Row wx a S c
  | [_, v2, _, v4], wx => v2 = .int .i64 E ∧ RefAt wx q D' ∧ Save q.Off w wx ∧ v4 = .bool true
  | _ :: _ :: _ :: _ :: _ :: _, _ => True
theorem onSt_save {w : World} {q : Rl} {D' : Dk} {S : List UInt8} {E : Int} {vs : List Value} {wx : World} (h : onSt w q D' S E vs wx) (hl : vs.length ≤ 4) : Save q.Off w wx := by
  match vs, h, hl with
  | [], h, _ => exact Save.of h.1
  | [_], h, _ => obtain ⟨_, _, _, _, hb⟩ := h; exact Save.of hb
  | [_, _], h, _ => exact h.2.2
  | [_, _, _], h, _ => exact h.2.2.1
  | [_, _, _, _], h, _ => exact h.2.2.1
  | _ :: _ :: _ :: _ :: _ :: _, _, hl => simp at hl
theorem onSt_v2 {w : World} {q : Rl} {D' : Dk} {S : List UInt8} {E : Int} {vs : List Value} {wx : World} (h : onSt w q D' S E vs wx) (h1 : 1 < vs.length) (hl : vs.length ≤ 4) : vs[1]? = some (.int .i64 E) := by
  match vs, h, h1, hl with
  | [_, _], h, _, _ => rw [← h.1]; rfl
  | [_, _, _], h, _, _ => rw [← h.1]; rfl
  | [_, _, _, _], h, _, _ => rw [← h.1]; rfl
  | _ :: _ :: _ :: _ :: _ :: _, _, _, hl => simp at hl
theorem onSt_v4 {w : World} {q : Rl} {D' : Dk} {S : List UInt8} {E : Int} {vs : List Value} {wx : World} (h : onSt w q D' S E vs wx) (h1 : 3 < vs.length) (hl : vs.length ≤ 4) : vs[3]? = some (.bool true) := by
  match vs, h, h1, hl with
  | [_, _, _, _], h, _, _ => rw [← h.2.2.2]; rfl
  | _ :: _ :: _ :: _ :: _ :: _, _, _, hl => simp at hl
/-- What has been laid since is none of theirs. -/
def Pl.more (p : Pl) (n m : Nat) : Pl := { p with x := fun k => p.x k ∨ (n ≤ k ∧ k < m) }
def Rl.more (r : Rl) (n m : Nat) : Rl := { r with x := fun k => r.x k ∨ (n ≤ k ∧ k < m) }
theorem Pair.more {w w1 : World} {p : Pl} {r : Rl} {D : Dk} (h : Pair w p r D) (hb : Below w.heap.size w w1) : Pair w1 (p.more w.heap.size w1.heap.size) (r.more w.heap.size w1.heap.size) D :=
  ⟨h.d.more hb, h.r.more hb, fun k hk => .inl (h.hx k hk), h.lt⟩
theorem Pair.less {w : World} {p : Pl} {r : Rl} {D : Dk} {n m : Nat} (h : Pair w (p.more n m) (r.more n m) D) (hx : ∀ k, (k = r.b ∨ k = r.lb) → p.x k) : Pair w p r D :=
  ⟨DiskAt.less (p := p) h.d (fun _ hk => .inl hk), RefAt.less (r := r) h.r (fun _ hk => .inl hk), hx, h.lt⟩
/-- A block that is none of theirs is written. -/
theorem Pair.free {w w' : World} {p : Pl} {r : Rl} {D : Dk} {n m : Nat} (h : Pair w (p.more n m) (r.more n m) D) {T : Nat → Prop} (hs : Save T w w') (hT : ∀ k, ¬ (n ≤ k ∧ k < m) → T k) (hn : p.b < n ∧ p.sb < n ∧ p.mb < n) : Pair w' (p.more n m) (r.more n m) D :=
  ⟨h.d.saveX hs (fun k hk => hT k (fun e => hk ⟨by show k ≠ p.b; omega, by show k ≠ p.sb; omega, by show k ≠ p.mb; omega⟩)) (fun k hk => hT k (fun e => hk (.inr e))), h.r.saveX hs (fun k _ hk => hT k (fun e => hk (.inr e))), h.hx, h.lt⟩
def on7 (r : Rl) (Bx : Nat) (x : Ac) (S : List UInt8) (E : Int) (am : Option Addr) (cm : Nat) : Nat → Value
  | 36 => (.int .i64 E)
  | 37 => (.pointer (some ⟨r.b, 0, none⟩))
  | 38 => (.pointer (some ⟨Bx, 1, none⟩))
  | 39 => (.int .i64 x.n)
  | 40 => (.pointer (some ⟨Bx, 2, none⟩))
  | 41 => (.slice x.a x.l.length x.c)
  | 44 => (.bool true)
  | 45 => (.bool true)
  | 46 => (.slice am S.length cm)
  | 47 => (.pointer (some ⟨Bx, 2, none⟩))
  | 48 => (.slice x.a x.l.length x.c)
  | 51 => (.bool true)
  | 9 => (.bool true)
  | _ => undef
def on7o (r : Rl) (Bx : Nat) (_ : Ac) (S : List UInt8) (E : Int) (am : Option Addr) (cm : Nat) : Nat → Value
  | 1 => (.pointer (some ⟨r.b, 0, none⟩))
  | 5 => (.pointer (some ⟨Bx, 0, none⟩))
  | 7 => (.slice am S.length cm)
  | 8 => (.int .i64 E)
  | _ => undef

set_option maxRecDepth 100000 in
set_option maxHeartbeats 4000000 in
theorem one_write (w0 : World) (p : Pl) (r : Rl) (D : Dk) (x : Ac) (h : Pair w0 p r D) (hx : x.At w0) (hl : x.l.length ≤ 6000) (hxo : x.l ≠ [] → ∀ g, Go.Cit.blk x.a = some g → p.Off g ∧ r.Off g) (hk : x.kind = 0 ∨ x.kind = 1 ∨ x.kind = 2) :
    Calls Try.prog 26 #[.pointer (some ⟨p.b, 0, none⟩), .pointer (some ⟨r.b, 0, none⟩), .agg x.cs.toArray] w0 fun e w' => e = .returned (.bool true) ∧ Pair w' p r (writeT D x.n (secL x.l)) ∧ Save (fun k => p.Off k ∧ r.Off k) w0 w' := by
  obtain ⟨Bx, hBx⟩ : ∃ B, Hid (B = w0.heap.size) := ⟨_, rfl⟩
  obtain ⟨w1, hw1⟩ : ∃ w1, w1 = w0.alloc (.cells x.cs.toArray 24) := ⟨_, rfl⟩
  have B1 : Below w0.heap.size w0 w1 := by rw [hw1]; exact (Below.refl _ w0).alloc (Nat.le_refl _) _
  have s1 : w1.heap.size = Bx + 1 := by rw [hw1, hBx.out]; simp
  have x1 : w1.heap[Bx]? = some (.cells x.cs.toArray 24 (0, 0)) := by rw [hw1, hBx.out]; exact heap_alloc_new _ _
  obtain ⟨c0, c1, c2⟩ : w1.cell? ⟨Bx, 0, none⟩ = some (.int .i64 x.kind) ∧ w1.cell? ⟨Bx, 1, none⟩ = some (.int .i64 x.n) ∧ w1.cell? ⟨Bx, 2, none⟩ = some (.slice x.a x.l.length x.c) := by
    refine ⟨?_, ?_, ?_⟩ <;> (rw [World.cell?, x1]; rfl)
  have HP0 := Lib.hid h
  have HP1 := Lib.hid (h.stay B1)
  have HX1 := Lib.hid (hx.stay B1)
  have HB1 := Lib.hid B1
  have hsec := sector_calls w1 x.a x.l x.c HX1.out.row (by omega)
  have HS1 := Lib.hid s1
  have C1 := Lib.hid c1
  have C2 := Lib.hid c2
  have HXO : Hid (x.l ≠ [] → ∀ g, Go.Cit.blk x.a = some g → ∀ p2 : Pl, (p2.b = p.b ∧ p2.sb = p.sb ∧ p2.mb = p.mb) → p2.Off g) := fun hne g hg p2 e => ⟨by rw [e.1]; exact (hxo hne g hg).1.1, by rw [e.2.1]; exact (hxo hne g hg).1.2.1, by rw [e.2.2]; exact (hxo hne g hg).1.2.2⟩
  have HXR : Hid (x.l ≠ [] → ∀ g, Go.Cit.blk x.a = some g → ∀ r2 : Rl, (r2.b = r.b ∧ r2.lb = r.lb ∧ r2.B = r.B) → r2.Off g) := fun hne g hg r2 e => ⟨by rw [e.1]; exact (hxo hne g hg).2.1, by rw [e.2.1]; exact (hxo hne g hg).2.2⟩
  clear h hx B1 s1 x1 hxo
  rcases hk with hk | hk | hk
  all_goals
    rw [hk] at c0
    go_enter Try.func26, Try.ntmps26
    go_wp2_with fail
    rw [← hBx.out]
    rw [← hw1]
    refine (hsec).mono ?_
    rintro e w2 ⟨am, cm, rfl, hOm, hb2⟩
    have hx1 : ∀ k, (k = r.b ∨ k = r.lb) → p.x k := HP1.out.hx
    have hlt1 := HP1.out.d.lt
    have HHX := Lib.hid hx1
    have HLT := Lib.hid hlt1
    have HP2 := Lib.hid (HP1.out.more hb2)
    obtain ⟨p2, hp2⟩ : ∃ q, Hid (q = p.more w1.heap.size w2.heap.size) := ⟨_, rfl⟩
    obtain ⟨r2, hr2⟩ : ∃ q, Hid (q = r.more w1.heap.size w2.heap.size) := ⟨_, rfl⟩
    have HRB : Hid (r2.b = r.b ∧ r2.lb = r.lb ∧ r2.B = r.B) := by rw [hr2.out]; exact ⟨rfl, rfl, rfl⟩
    have HPB : Hid (p2.b = p.b ∧ p2.sb = p.sb ∧ p2.mb = p.mb) := by rw [hp2.out]; exact ⟨rfl, rfl, rfl⟩
    rw [← hp2.out, ← hr2.out] at HP2
    obtain ⟨S, hS⟩ : ∃ S, Hid (S = secL x.l) := ⟨_, rfl⟩
    have HSL : Hid (S.length ≤ 6000) := by rw [hS.out]; exact secL_len hl
    rw [← hS.out] at hOm
    have HOm := Lib.hid hOm
    have HX2 := Lib.hid (HX1.out.stay hb2)
    have c1 := keep hb2 c1
    have c2 := keep hb2 c2
    have HB2 := Lib.hid hb2
    have hwr := write_calls w2 p2 D HP2.out.d x.n am S cm hOm.isRow (fun _ g hg => ⟨by rw [HPB.out.1]; have := (hOm.blk_ge hg).1; omega, by rw [HPB.out.2.1]; have := (hOm.blk_ge hg).1; omega, by rw [HPB.out.2.2]; have := (hOm.blk_ge hg).1; omega⟩)
    rw [HPB.out.1] at hwr
    have HBX : Hid (Bx < w2.heap.size ∧ p2.Off Bx ∧ r2.Off Bx) := by
      have h1 := hb2.size
      have h2 := HS1.out
      have hd0 := HP0.out.d.lt
      have hrl := HP0.out.r
      obtain ⟨L9, c9, sa9, sc9, hr9⟩ := hrl
      have h3 := (Array.getElem?_eq_some_iff.1 hr9.box).1
      have h4 := (Array.getElem?_eq_some_iff.1 hr9.held.blk.choose_spec).1
      have h5 := hBx.out
      refine ⟨by omega, ⟨?_, ?_, ?_⟩, ?_, ?_⟩
      · rw [HPB.out.1]; omega
      · rw [HPB.out.2.1]; omega
      · rw [HPB.out.2.2]; omega
      · rw [HRB.out.1]; omega
      · rw [HRB.out.2.1]; omega
    rw [← hS.out]
    obtain ⟨E, hE⟩ : ∃ E, Hid (E = writeE D x.n S.length) := ⟨_, rfl⟩
    rw [← hE.out] at hwr
    clear hx1 hlt1 hOm hb2 hsec
    go_wp2_with fail
    refine (hwr).mono ?_
    rintro e w3 ⟨rfl, hD3, hs3⟩
    have HD3 := Lib.hid hD3
    have HR3 := Lib.hid (HP2.out.ref hs3)
    have HP2S := Lib.hid hs3
    have e1 : w3.cell? ⟨Bx, 1, none⟩ = some (.int .i64 x.n) := (hs3.cell HBX.out.1 HBX.out.2.1).trans c1
    have e2 : w3.cell? ⟨Bx, 2, none⟩ = some (.slice x.a x.l.length x.c) := (hs3.cell HBX.out.1 HBX.out.2.1).trans c2
    have HSZ3 : Hid (w2.heap.size ≤ w3.heap.size) := hs3.size
    have HOm3 : Hid (Cit.Own 5 w1.heap.size w3 am S cm) := HOm.out.save hs3 (fun g hg => ⟨by rw [HPB.out.1]; have := (HOm.out.blk_ge hg).1; have := HLT.out; omega, by rw [HPB.out.2.1]; have := (HOm.out.blk_ge hg).1; have := HLT.out; omega, by rw [HPB.out.2.2]; have := (HOm.out.blk_ge hg).1; have := HLT.out; omega⟩)
    have HX3 : Hid (Row w3 x.a x.l x.c) := HX2.out.row.save' hs3 (fun hne g hg => HXO.out hne g hg p2 HPB.out)
    have ON1 : Hid (∀ vs wx, onSt w3 r2 (writeT D x.n S) S E vs wx → vs.length ≤ 4 → wx.cell? ⟨Bx, 1, none⟩ = some (.int .i64 x.n)) := fun vs wx hst hle => ((onSt_save hst hle).cell (by show Bx < _; have := HBX.out.1; have := HSZ3.out; omega) HBX.out.2.2).trans e1
    have ON2 : Hid (∀ vs wx, onSt w3 r2 (writeT D x.n S) S E vs wx → vs.length ≤ 4 → wx.cell? ⟨Bx, 2, none⟩ = some (.slice x.a x.l.length x.c)) := fun vs wx hst hle => ((onSt_save hst hle).cell (by show Bx < _; have := HBX.out.1; have := HSZ3.out; omega) HBX.out.2.2).trans e2
    have OSC : Hid (∀ vs wx, onSt w3 r2 (writeT D x.n S) S E vs wx → vs.length = 0 → Calls Try.prog 31 #[.slice x.a x.l.length x.c] wx fun e w' => ∃ a' c', e = .returned (.slice a' S.length c') ∧ Cit.Own 5 wx.heap.size w' a' S c' ∧ Below wx.heap.size wx w') := fun vs wx hst hvs => by
      obtain rfl : vs = [] := List.eq_nil_of_length_eq_zero hvs
      rw [hS.out]
      exact sector_calls wx x.a x.l x.c (HX3.out.stay hst.1) (by omega)
    have OS6 : Hid (∀ vs wx w9 a9 c8, onSt w3 r2 (writeT D x.n S) S E vs wx → vs.length = 0 → Cit.Own 5 wx.heap.size w9 a9 S c8 → Below wx.heap.size wx w9 → onSt w3 r2 (writeT D x.n S) S E (vs ++ [.slice a9 S.length c8]) w9) := fun vs wx w9 a9 c8 hst hvs hO hb => by
      obtain rfl : vs = [] := List.eq_nil_of_length_eq_zero hvs
      have hs : wx.heap.size = w3.heap.size := by rw [hst.2]
      rw [hs] at hO hb
      exact ⟨a9, c8, rfl, hO, hst.1.trans hb⟩
    have OS1v : Hid (∀ vs wx, onSt w3 r2 (writeT D x.n S) S E vs wx → vs.length = 1 → ∃ a9 c8, vs = [.slice a9 S.length c8] ∧ Cit.Own 5 w3.heap.size wx a9 S c8 ∧ Below w3.heap.size w3 wx) := fun vs wx hst hvs => by
      match vs, hst, hvs with
      | [v], hst, _ => obtain ⟨a9, c8, rfl, hO, hb⟩ := hst; exact ⟨a9, c8, rfl, hO, hb⟩
    have OWR : Hid (∀ wx a9 c8, Cit.Own 5 w3.heap.size wx a9 S c8 → Below w3.heap.size w3 wx → Calls Try.prog 55 #[.pointer (some ⟨r.b, 0, none⟩), .int .i64 x.n, .slice a9 S.length c8] wx fun e w' => e = .returned (.int .i64 E) ∧ RefAt w' r2 (writeT D x.n S) ∧ Save r2.Off wx w') := fun wx a9 c8 hO hb => by
      have hRw := HR3.out.stay hb
      have hlr : r2.b < w3.heap.size ∧ r2.lb < w3.heap.size := by
        obtain ⟨L9, c9, sa9, sc9, hr9⟩ := HR3.out
        exact ⟨(Array.getElem?_eq_some_iff.1 hr9.box).1, (Array.getElem?_eq_some_iff.1 hr9.held.blk.choose_spec).1⟩
      have := rwrite_calls wx r2 D hRw x.n a9 S c8 hO.isRow (fun _ g hg => ⟨by have := (hO.blk_ge hg).1; omega, by have := (hO.blk_ge hg).1; omega⟩)
      rw [HRB.out.1, ← hE.out] at this
      exact this
    have OS2v : Hid (∀ vs wx, onSt w3 r2 (writeT D x.n S) S E vs wx → vs.length = 2 → ∃ v1, vs = [v1, .int .i64 E] ∧ RefAt wx r2 (writeT D x.n S) ∧ Save r2.Off w3 wx) := fun vs wx hst hvs => by
      match vs, hst, hvs with
      | [v1, v2], hst, _ => obtain ⟨rfl, hR, hs⟩ := hst; exact ⟨v1, rfl, hR, hs⟩
    have OSC2 : Hid (∀ wx, Save r2.Off w3 wx → Calls Try.prog 31 #[.slice x.a x.l.length x.c] wx fun e w' => ∃ a' c', e = .returned (.slice a' S.length c') ∧ Cit.Own 5 wx.heap.size w' a' S c' ∧ Below wx.heap.size wx w') := fun wx hs => by
      rw [hS.out]
      exact sector_calls wx x.a x.l x.c (HX3.out.save' hs (fun hne g hg => HXR.out hne g hg r2 HRB.out)) (by omega)
    have OS3v : Hid (∀ vs wx, onSt w3 r2 (writeT D x.n S) S E vs wx → vs.length = 3 → ∃ v1 a9 c8, vs = [v1, .int .i64 E, .slice a9 S.length c8] ∧ RefAt wx r2 (writeT D x.n S) ∧ Save r2.Off w3 wx ∧ Row wx a9 S c8) := fun vs wx hst hvs => by
      match vs, hst, hvs with
      | [v1, v2, v3], hst, _ => obtain ⟨rfl, hR, hs, a9, c8, rfl, hO⟩ := hst; exact ⟨v1, a9, c8, rfl, hR, hs, hO⟩
    have HLR : Hid (r.b < w1.heap.size ∧ r.lb < w1.heap.size) := by
      obtain ⟨L9, c9, sa9, sc9, hr9⟩ := HP1.out.r
      exact ⟨(Array.getElem?_eq_some_iff.1 hr9.box).1, (Array.getElem?_eq_some_iff.1 hr9.held.blk.choose_spec).1⟩
    have HOF : Hid (∀ g, Go.Cit.blk am = some g → r2.Off g) := fun g hg => by
      have h1 := (HOm.out.blk_ge hg).1
      have h2 := HLR.out
      exact ⟨by rw [HRB.out.1]; omega, by rw [HRB.out.2.1]; omega⟩
    have OSM : Hid (∀ wx a9 c8, Save r2.Off w3 wx → Row wx a9 S c8 → Calls Try.prog 54 #[.slice am S.length cm, .slice a9 S.length c8] wx fun e w' => e = .returned (.bool true) ∧ Drew wx w') := fun wx a9 c8 hs hO => by
      have := same_calls wx am a9 S S cm c8 (HOm3.out.isRow.save hs HOF.out) hO
      rwa [ordB_self] at this
    clear c1 c2 e1 e2 hD3 hs3 hwr
    go_upto_region 7 with fail
    refine wp_region_line (on7 r Bx x S E am cm) (on7o r Bx x S E am cm) [1, 5, 7, 8] [6, 7, 13, 14] (onSt w3 r2 (writeT D x.n S) S E) (by kernel_rfl) (by kernel_rfl) (by kernel_rfl) ⟨rfl, rfl, rfl, rfl, trivial⟩ (fun _ h => h) ?_ ?_
    · refine opsAll_cons ?_ (opsAll_cons ?_ (opsAll_cons ?_ (opsAll_cons ?_ (opsAll_cons ?_ (opsAll_cons ?_ (opsAll_cons ?_ (opsAll_cons ?_ (opsAll_cons ?_ (opsAll_cons ?_ (opsAll_cons ?_ (opsAll_cons ?_ (opsAll_cons ?_ (opsAll_cons ?_ (opsAll_cons ?_ (opsAll_cons ?_ (opsAll_cons ?_ opsAll_nil))))))))))))))))
      all_goals intro a_ vs hk
      · exact ⟨wanted_free rfl, .inr ⟨by decide, fun s1 s2 hle wx hst => gp_move (.tmp 8) rfl ⟨rfl, (show a_.eval (.tmp 8) = (.int .i64 E) from hk.old 8 (by kernel_rfl))⟩⟩⟩
      · exact ⟨wanted_free rfl, .inr ⟨by decide, fun s1 s2 hle wx hst => gp_move (.tmp 1) rfl ⟨rfl, (show a_.eval (.tmp 1) = (.pointer (some ⟨r.b, 0, none⟩)) from hk.old 1 (by kernel_rfl))⟩⟩⟩
      · exact ⟨wanted_free rfl, .inr ⟨by decide, fun s1 s2 hle wx hst => gp_field (.tmp 5) rfl (show a_.eval (.tmp 5) = (.pointer (some ⟨Bx, 0, none⟩)) from hk.old 5 (by kernel_rfl)) (v := (.pointer (some ⟨Bx, 1, none⟩))) (fun w => by kernel_rfl) ⟨rfl, rfl⟩⟩⟩
      · exact ⟨wanted_free rfl, .inr ⟨by decide, fun s1 s2 hle wx hst => gp_load (.tmp 38) rfl (show a_.eval (.tmp 38) = (.pointer (some ⟨Bx, 1, none⟩)) from hk.slot 38 (by kernel_rfl) (by kernel_rfl)) (v := (.int .i64 x.n)) (load_at (fun w => by kernel_rfl) (ON1.out _ wx hst hle)) ⟨rfl, rfl⟩⟩⟩
      · exact ⟨wanted_free rfl, .inr ⟨by decide, fun s1 s2 hle wx hst => gp_field (.tmp 5) rfl (show a_.eval (.tmp 5) = (.pointer (some ⟨Bx, 0, none⟩)) from hk.old 5 (by kernel_rfl)) (v := (.pointer (some ⟨Bx, 2, none⟩))) (fun w => by kernel_rfl) ⟨rfl, rfl⟩⟩⟩
      · exact ⟨wanted_free rfl, .inr ⟨by decide, fun s1 s2 hle wx hst => gp_load (.tmp 40) rfl (show a_.eval (.tmp 40) = (.pointer (some ⟨Bx, 2, none⟩)) from hk.slot 40 (by kernel_rfl) (by kernel_rfl)) (v := (.slice x.a x.l.length x.c)) (load_at (fun w => by kernel_rfl) (ON2.out _ wx hst hle)) ⟨rfl, rfl⟩⟩⟩
      · refine ⟨wanted_free rfl, .inl ⟨0, rfl, fun hvs wx hst => ?_⟩⟩
        refine gp_call rfl rfl #[.slice x.a x.l.length x.c] (fun w => by kernel_rfl) (by simp only [List.map_toArray, List.map_cons, List.map_nil]; rw [show a_.eval (.tmp 41) = (.slice x.a x.l.length x.c) from hk.slot 41 (by kernel_rfl) (by kernel_rfl)]) ((OSC.out _ wx hst hvs).mono ?_)
        rintro e w9 ⟨a9, c8, rfl, hO9, hb9⟩
        exact ⟨_, rfl, OS6.out _ wx w9 a9 c8 hst hvs hO9 hb9⟩
      · refine ⟨wanted_free rfl, .inl ⟨1, rfl, fun hvs wx hst => ?_⟩⟩
        obtain ⟨a9, c8, rfl, hO9, hb9⟩ := OS1v.out vs wx hst hvs
        refine gp_call rfl rfl #[.pointer (some ⟨r.b, 0, none⟩), .int .i64 x.n, .slice a9 S.length c8] (fun w => by kernel_rfl) (by simp only [List.map_toArray, List.map_cons, List.map_nil]; rw [show a_.eval (.tmp 37) = (.pointer (some ⟨r.b, 0, none⟩)) from hk.slot 37 (by kernel_rfl) (by kernel_rfl), show a_.eval (.tmp 39) = (.int .i64 x.n) from hk.slot 39 (by kernel_rfl) (by kernel_rfl), show a_.eval (.tmp 42) = (.slice a9 S.length c8) from hk.line 0 42 _ rfl (by kernel_rfl)]) ((OWR.out wx a9 c8 hO9 hb9).mono ?_)
        rintro e w9 ⟨rfl, hR9, hs9⟩
        exact ⟨_, rfl, rfl, hR9, (Save.of hb9).trans hs9⟩
      · exact ⟨wanted_free rfl, .inr ⟨by decide, fun s1 s2 hle wx hst => gp_bin rfl (show a_.eval (.tmp 36) = (.int .i64 E) from hk.slot 36 (by kernel_rfl) (by kernel_rfl)) (show a_.eval (.tmp 43) = (.int .i64 E) from hk.line 1 43 _ (onSt_v2 hst (s1 1 7 rfl (by kernel_rfl)) hle) (by kernel_rfl)) (v := .bool (E == E)) (fun w => by kernel_rfl) ⟨rfl, congrArg Value.bool (beq_self_eq_true E)⟩⟩⟩
      · exact ⟨wanted_free rfl, .inr ⟨by decide, fun s1 s2 hle wx hst => gp_move (.tmp 44) rfl ⟨rfl, (show a_.eval (.tmp 44) = (.bool true) from hk.slot 44 (by kernel_rfl) (by kernel_rfl))⟩⟩⟩
      · exact ⟨wanted_by 45 true (by kernel_rfl) (show a_.eval (.tmp 45) = (.bool true) from hk.slot 45 (by kernel_rfl) (by kernel_rfl)), .inr ⟨by decide, fun s1 s2 hle wx hst => gp_move (.tmp 7) rfl ⟨rfl, (show a_.eval (.tmp 7) = (.slice am S.length cm) from hk.old 7 (by kernel_rfl))⟩⟩⟩
      · exact ⟨wanted_by 45 true (by kernel_rfl) (show a_.eval (.tmp 45) = (.bool true) from hk.slot 45 (by kernel_rfl) (by kernel_rfl)), .inr ⟨by decide, fun s1 s2 hle wx hst => gp_field (.tmp 5) rfl (show a_.eval (.tmp 5) = (.pointer (some ⟨Bx, 0, none⟩)) from hk.old 5 (by kernel_rfl)) (v := (.pointer (some ⟨Bx, 2, none⟩))) (fun w => by kernel_rfl) ⟨rfl, rfl⟩⟩⟩
      · exact ⟨wanted_by 45 true (by kernel_rfl) (show a_.eval (.tmp 45) = (.bool true) from hk.slot 45 (by kernel_rfl) (by kernel_rfl)), .inr ⟨by decide, fun s1 s2 hle wx hst => gp_load (.tmp 47) rfl (show a_.eval (.tmp 47) = (.pointer (some ⟨Bx, 2, none⟩)) from hk.slot 47 (by kernel_rfl) (by kernel_rfl)) (v := (.slice x.a x.l.length x.c)) (load_at (fun w => by kernel_rfl) (ON2.out _ wx hst hle)) ⟨rfl, rfl⟩⟩⟩
      · refine ⟨wanted_by 45 true (by kernel_rfl) (show a_.eval (.tmp 45) = (.bool true) from hk.slot 45 (by kernel_rfl) (by kernel_rfl)), .inl ⟨2, rfl, fun hvs wx hst => ?_⟩⟩
        obtain ⟨v1, rfl, hR9, hs9⟩ := OS2v.out vs wx hst hvs
        refine gp_call rfl rfl #[.slice x.a x.l.length x.c] (fun w => by kernel_rfl) (by simp only [List.map_toArray, List.map_cons, List.map_nil]; rw [show a_.eval (.tmp 48) = (.slice x.a x.l.length x.c) from hk.slot 48 (by kernel_rfl) (by kernel_rfl)]) ((OSC2.out wx hs9).mono ?_)
        rintro e w9 ⟨a9, c8, rfl, hO9, hb9⟩
        exact ⟨_, rfl, rfl, hR9.stay hb9, hs9.trans (Save.of hb9), a9, c8, rfl, hO9.isRow⟩
      · refine ⟨wanted_by 45 true (by kernel_rfl) (show a_.eval (.tmp 45) = (.bool true) from hk.slot 45 (by kernel_rfl) (by kernel_rfl)), .inl ⟨3, rfl, fun hvs wx hst => ?_⟩⟩
        obtain ⟨v1, a9, c8, rfl, hR9, hs9, hO9⟩ := OS3v.out vs wx hst hvs
        refine gp_call rfl rfl #[.slice am S.length cm, .slice a9 S.length c8] (fun w => by kernel_rfl) (by simp only [List.map_toArray, List.map_cons, List.map_nil]; rw [show a_.eval (.tmp 46) = (.slice am S.length cm) from hk.slot 46 (by kernel_rfl) (by kernel_rfl), show a_.eval (.tmp 49) = (.slice a9 S.length c8) from hk.line 2 49 _ rfl (by kernel_rfl)]) ((OSM.out wx a9 c8 hs9 hO9).mono ?_)
        rintro e w9 ⟨rfl, hd9⟩
        exact ⟨_, rfl, rfl, hR9.stay (hd9.below _), hs9.trans (Save.of (hd9.below _)), rfl⟩
      · exact ⟨wanted_free rfl, .inr ⟨by decide, fun s1 s2 hle wx hst => gp_pick rfl true (show a_.eval (.tmp 45) = (.bool true) from hk.slot 45 (by kernel_rfl) (by kernel_rfl)) ⟨rfl, (show a_.eval (.tmp 50) = (.bool true) from hk.line 3 50 _ (onSt_v4 hst (s1 3 14 rfl (by kernel_rfl)) hle) (by kernel_rfl))⟩⟩⟩
      · exact ⟨wanted_free rfl, .inr ⟨by decide, fun s1 s2 hle wx hst => gp_assign (.tmp 51) rfl ⟨rfl, (show a_.eval (.tmp 51) = (.bool true) from hk.slot 51 (by kernel_rfl) (by kernel_rfl))⟩⟩⟩
    intro a_ vs wz hlen9 hfin hsame hall hline
    have he := act_same hsame [36, 37, 38, 39, 40, 41, 42, 43, 44, 45, 46, 47, 48, 49, 50, 51, 9] (by kernel_rfl)
    simp only [List.foldl_cons, List.foldl_nil] at he
    rw [show a_.eval (.tmp 9) = (.bool true) from hall 9 (by kernel_rfl) (by kernel_rfl)] at he
    generalize a_.eval (.tmp 36) = y36 at he
    generalize a_.eval (.tmp 37) = y37 at he
    generalize a_.eval (.tmp 38) = y38 at he
    generalize a_.eval (.tmp 39) = y39 at he
    generalize a_.eval (.tmp 40) = y40 at he
    generalize a_.eval (.tmp 41) = y41 at he
    generalize a_.eval (.tmp 42) = y42 at he
    generalize a_.eval (.tmp 43) = y43 at he
    generalize a_.eval (.tmp 44) = y44 at he
    generalize a_.eval (.tmp 45) = y45 at he
    generalize a_.eval (.tmp 46) = y46 at he
    generalize a_.eval (.tmp 47) = y47 at he
    generalize a_.eval (.tmp 48) = y48 at he
    generalize a_.eval (.tmp 49) = y49 at he
    generalize a_.eval (.tmp 50) = y50 at he
    generalize a_.eval (.tmp 51) = y51 at he
    simp only [put_lit] at he
    dsimp only [List.set_cons_zero, List.set_cons_succ] at he
    subst he
    clear hsame hall
    obtain ⟨hRf, hSf⟩ : RefAt wz r2 (writeT D x.n S) ∧ Save r2.Off w3 wz := by
      match vs, hlen9, hfin with
      | [_, _, _, _], _, hfin => exact ⟨hfin.2.1, hfin.2.2.1⟩
    have HPZ := Lib.hid (HP2.out.both HD3.out hRf hSf)
    have HOZ := Lib.hid (HOm3.out.save hSf HOF.out)
    have HSZ : Hid (Save (fun k => p.Off k ∧ r.Off k) w0 wz) := ((Save.of HB1.out).trans (Save.of HB2.out)).trans ((HP2S.out.less (fun k _ hk => ⟨by rw [HPB.out.1]; exact hk.1.1, by rw [HPB.out.2.1]; exact hk.1.2.1, by rw [HPB.out.2.2]; exact hk.1.2.2⟩)).trans (hSf.less (fun k _ hk => ⟨by rw [HRB.out.1]; exact hk.2.1, by rw [HRB.out.2.1]; exact hk.2.2⟩)))
    obtain ⟨n3, hn3⟩ : ∃ n, Hid (n = S.length) := ⟨_, rfl⟩
    rw [← hn3.out]
    have hb9 : n3 ≤ 6000 := by rw [hn3.out]; exact HSL.out
    clear hRf hSf hfin ON1 ON2 OSC OS6 OS1v OWR OS2v OSC2 OS3v OSM
    go_wp2_with fail
    go_loopw [10] (fun j wq => ∃ (q : Nat) (m : List UInt8), q ≤ n3 ∧ j = .int .i64 (q : Int) ∧ Hid (m.length = n3) ∧ Hid (Cit.Own 5 w1.heap.size wq am m cm ∧ Pair wq p2 r2 (writeT D x.n S) ∧ Save (fun k => p.Off k ∧ r.Off k) w0 wq)) (fun j _ => n3 - (intOf j).toNat)
    case atStart => exact ⟨0, S, Nat.zero_le _, rfl, hn3.out.symm, HOZ.out, HPZ.out, HSZ.out⟩
    case round =>
      obtain ⟨q, m, hq, rfl, HML, HMM⟩ := hrel
      by_cases hlq : q < n3
      · have hqm : q < m.length := by rw [HML.out]; exact hlq
        have ij := HMM.out.1.isRow.index bt.slice bt.sz q hqm
        have ej := HMM.out.1.isRow.cell q hqm
        have fj := HMM.out.1.frozen q hqm
        rw [HML.out] at ij
        obtain ⟨st1, st2⟩ := HMM.out.1.stored q hqm (bAdd m[q] (bI 1))
        have hsv : Save (fun k => Go.Cit.blk am ≠ some k) wr (wr.setCell (ad am q) (vb (bAdd m[q] (bI 1)))) := (Save.grown st2).less (fun k _ hk e => hk (by rw [e]))
        have hgm : ∀ k, Go.Cit.blk am = some k → w1.heap.size ≤ k ∧ k < w2.heap.size := fun k hk => HOm.out.blk_ge hk
        have hPn : Pair (wr.setCell (ad am q) (vb (bAdd m[q] (bI 1)))) p2 r2 (writeT D x.n S) := by
          have h0 := HMM.out.2.1
          rw [hp2.out, hr2.out] at h0 ⊢
          exact h0.free hsv (fun k hk e => hk (hgm k e)) HLT.out
        have hs0 : Save (fun k => p.Off k ∧ r.Off k) w0 (wr.setCell (ad am q) (vb (bAdd m[q] (bI 1)))) := by
          refine ⟨hsv.os.trans HMM.out.2.2.os, hsv.tape.trans HMM.out.2.2.tape, hsv.output.trans HMM.out.2.2.output, Nat.le_trans HMM.out.2.2.size hsv.size, fun k hk hT => ?_⟩
          rw [hsv.block k (Nat.lt_of_lt_of_le hk HMM.out.2.2.size) (fun e => by have h1 := (hgm k e).1; have h2 := HS1.out; have h3 := hBx.out; omega)]
          exact HMM.out.2.2.block k hk hT
        have HST := Lib.hid (And.intro st1 (And.intro hPn hs0))
        obtain ⟨y, hy⟩ : ∃ y, m[q] = y := ⟨_, rfl⟩
        rw [hy] at ej HST
        have HLS : Hid ((m.set q (bAdd y (bI 1))).length = n3) := by rw [Hid, List.length_set]; exact HML.out
        clear st1 st2 hsv hgm hPn hs0 hy hqm
        go_wp2_with fail
        go_roundw
        case rel => exact ⟨q + 1, _, hlq, by go_num, HLS, HST⟩
        case measure => simp [intOf]; omega
      · go_wp2_with fail
        go_ret
        have h0 := HMM.out.2.1
        rw [hp2.out, hr2.out] at h0
        have h9 := h0.less HHX.out
        rw [hS.out] at h9
        exact ⟨rfl, h9, HMM.out.2.2⟩
end Go.Proofs.Ytofagofpeedfcaa
