/- DiskArmed's plain part: a disk that is armed beside one that is not. -/
import Derived.Test.YtofagofpeedfcaaRws
namespace Go.Proofs.Ytofagofpeedfcaa
open Go Go.RowKit Go.Cit

/-- A disk that is armed to crash at the A-th operation, behind d of them, beside the same one that is not. -/
structure Armd (A : Nat) (st : List UInt8) (d : Nat) (D1 D2 : Dk) : Prop where
  up : D2.up = true
  left : D2.left = 0
  lt : d < A
  eq : D1 = { D2 with left := A - d, stay := st }
theorem armd_new (n A : Nat) (st : List UInt8) (h : 1 ≤ A) : armE (newD n) (A : Int) = 0 ∧ Armd A st 0 (armD (newD n) (A : Int) st) (newD n) := by
  constructor
  · rw [armE, if_neg (by simp [newD]), if_neg (by omega)]
  · refine ⟨rfl, rfl, by omega, ?_⟩
    rw [armD, if_neg (by simp [newD]; omega)]
    simp
theorem actD_write {D : Dk} {x : Ac} (h : 0 ≤ x.kind ∧ x.kind ≤ 2) : actD D x = writeT D x.n (secL x.l) ∧ actE D x = writeE D x.n (secL x.l).length := by
  constructor
  · rw [actD, if_pos (by omega)]
  · rw [actE, if_pos (by omega)]
theorem actD_flush {D : Dk} {x : Ac} (h : 3 ≤ x.kind ∧ x.kind ≤ 4) : actD D x = flushT D ∧ actE D x = flushE D := by
  constructor
  · rw [actD, if_neg (by omega), if_pos (by omega)]
  · rw [actE, if_neg (by omega), if_pos (by omega)]
theorem armd_do {A : Nat} {st : List UInt8} {d : Nat} {D1 D2 : Dk} (h : Armd A st d D1 D2) (hd : d + 1 < A) (x : Ac) (hk : 0 ≤ x.kind ∧ x.kind ≤ 4) :
    actE D1 x = actE D2 x ∧ Armd A st (if actE D2 x = 0 then d + 1 else d) (actD D1 x) (actD D2 x) := by
  obtain ⟨hu, hl, hlt, rfl⟩ := h
  have e0 : ¬ ({ D2 with left := A - d, stay := st } : Dk).left = 1 := by show ¬ A - d = 1; omega
  have e1 : ¬ D2.left = 1 := by rw [hl]; decide
  have eu : ¬ D2.up = false := by rw [hu]; decide
  by_cases h2 : x.kind ≤ 2
  · rw [(actD_write ⟨hk.1, h2⟩).1, (actD_write ⟨hk.1, h2⟩).1, (actD_write ⟨hk.1, h2⟩).2, (actD_write ⟨hk.1, h2⟩).2]
    unfold writeE writeT
    by_cases h3 : 0 ≤ x.n ∧ x.n < D2.S.length
    · by_cases h4 : (secL x.l).length = 64
      · have e3 : ¬ (D2.up = false ∨ ¬ (0 ≤ x.n ∧ x.n < D2.S.length) ∨ (secL x.l).length ≠ 64) := by simp [hu, h3, h4]
        rw [if_neg eu, if_neg (by simpa using h3), if_neg (by simpa using h4), if_neg e0, if_neg eu, if_neg (by simpa using h3), if_neg (by simpa using h4), if_neg e1, if_neg e3, if_neg e0, if_neg e3, if_neg e1]
        refine ⟨rfl, ?_⟩
        rw [if_pos rfl]
        exact ⟨hu, by show D2.left - 1 = 0; rw [hl], hd, by simp [putD, tickD]; omega⟩
      · have e3 : (D2.up = false ∨ ¬ (0 ≤ x.n ∧ x.n < D2.S.length) ∨ (secL x.l).length ≠ 64) := .inr (.inr h4)
        rw [if_neg eu, if_neg (by simpa using h3), if_pos (by simpa using h4), if_neg eu, if_neg (by simpa using h3), if_pos (by simpa using h4), if_pos e3, if_pos e3]
        exact ⟨rfl, by rw [if_neg (by decide)]; exact ⟨hu, hl, hlt, rfl⟩⟩
    · have e3 : (D2.up = false ∨ ¬ (0 ≤ x.n ∧ x.n < D2.S.length) ∨ (secL x.l).length ≠ 64) := .inr (.inl h3)
      rw [if_neg eu, if_pos h3, if_neg eu, if_pos h3, if_pos e3, if_pos e3]
      exact ⟨rfl, by rw [if_neg (by decide)]; exact ⟨hu, hl, hlt, rfl⟩⟩
  · have h3 : 3 ≤ x.kind ∧ x.kind ≤ 4 := ⟨by omega, hk.2⟩
    rw [(actD_flush h3).1, (actD_flush h3).1, (actD_flush h3).2, (actD_flush h3).2]
    unfold flushE flushT
    rw [if_neg (fun e => e.elim eu e0), if_neg (fun e => e.elim eu e1), if_neg eu, if_neg e0, if_neg eu, if_neg e1, if_pos rfl]
    refine ⟨rfl, hu, by show D2.left - 1 = 0; rw [hl], hd, ?_⟩
    show ({ spillD (fun _ => true) (tickD _) with } : Dk) = _
    simp [spillD, tickD, flushD, spillK]
    omega
/-- At the operation at which it crashes. -/
theorem armd_last {A : Nat} {st : List UInt8} {d : Nat} {D1 D2 : Dk} (h : Armd A st d D1 D2) (hd : d + 1 = A) (x : Ac) (hk : 0 ≤ x.kind ∧ x.kind ≤ 4)
    (hx : x.kind ≤ 2 → (0 ≤ x.n ∧ x.n < D2.S.length) ∧ (secL x.l).length = 64) : actE D1 x = 60 ∧ actD D1 x = fallD st D2 := by
  obtain ⟨hu, hl, hlt, rfl⟩ := h
  have e0 : ({ D2 with left := A - d, stay := st } : Dk).left = 1 := by show A - d = 1; omega
  have eu : ¬ D2.up = false := by rw [hu]; decide
  by_cases h2 : x.kind ≤ 2
  · obtain ⟨h3, h4⟩ := hx h2
    rw [(actD_write ⟨hk.1, h2⟩).1, (actD_write ⟨hk.1, h2⟩).2]
    unfold writeE writeT
    have e3 : ¬ (D2.up = false ∨ ¬ (0 ≤ x.n ∧ x.n < D2.S.length) ∨ (secL x.l).length ≠ 64) := by simp [hu, h3, h4]
    rw [if_neg eu, if_neg (by simpa using h3), if_neg (by simpa using h4), if_pos e0, if_neg e3, if_pos e0]
    exact ⟨rfl, rfl⟩
  · have h3 : 3 ≤ x.kind ∧ x.kind ≤ 4 := ⟨by omega, hk.2⟩
    rw [(actD_flush h3).1, (actD_flush h3).2]
    unfold flushE flushT
    rw [if_pos (.inr e0), if_neg eu, if_pos e0]
    exact ⟨rfl, rfl⟩
/-- A write that is refused there. -/
theorem armd_refused {A : Nat} {st : List UInt8} {d : Nat} {D1 D2 : Dk} (h : Armd A st d D1 D2) (x : Ac) (hk : 0 ≤ x.kind ∧ x.kind ≤ 2)
    (hx : ¬ ((0 ≤ x.n ∧ x.n < D2.S.length) ∧ (secL x.l).length = 64)) : actD D1 x = D1 := by
  obtain ⟨hu, hl, hlt, rfl⟩ := h
  rw [(actD_write hk).1]
  unfold writeT
  rw [if_pos]
  by_cases h3 : 0 ≤ x.n ∧ x.n < D2.S.length
  · exact .inr (.inr fun h4 => hx ⟨h3, h4⟩)
  · exact .inr (.inl h3)
/-- Two disks, side by side. -/
structure Both (w : World) (p1 p2 : Pl) (D1 D2 : Dk) : Prop where
  a : DiskAt w { p1 with x := fun k => ¬ p2.Off k } D1
  b : DiskAt w { p2 with x := fun k => ¬ p1.Off k } D2
  ne : ∀ k, ¬ p1.Off k → p2.Off k
theorem Both.stay {w w' : World} {p1 p2 : Pl} {D1 D2 : Dk} (h : Both w p1 p2 D1 D2) (hb : Below w.heap.size w w') : Both w' p1 p2 D1 D2 := ⟨h.a.stay hb, h.b.stay hb, h.ne⟩
theorem Both.ne' {w : World} {p1 p2 : Pl} {D1 D2 : Dk} (h : Both w p1 p2 D1 D2) (k : Nat) (hk : ¬ p2.Off k) : p1.Off k := Classical.byContradiction fun h1 => hk (h.ne k h1)
theorem Both.setA {w w' : World} {p1 p2 : Pl} {D1 D2 D : Dk} (h : Both w p1 p2 D1 D2) (ha : DiskAt w' { p1 with x := fun k => ¬ p2.Off k } D) (hs : Save p1.Off w w') : Both w' p1 p2 D D2 :=
  ⟨ha, h.b.saveX hs h.ne' (fun k hk => Classical.byContradiction hk), h.ne⟩
theorem Both.setB {w w' : World} {p1 p2 : Pl} {D1 D2 D : Dk} (h : Both w p1 p2 D1 D2) (hb : DiskAt w' { p2 with x := fun k => ¬ p1.Off k } D) (hs : Save p2.Off w w') : Both w' p1 p2 D1 D :=
  ⟨h.a.saveX hs h.ne (fun k hk => Classical.byContradiction hk), hb, h.ne⟩
theorem Pl.not_off {p : Pl} {k : Nat} (h : ¬ p.Off k) : k = p.b ∨ k = p.sb ∨ k = p.mb := by
  unfold Pl.Off at h
  by_cases h1 : k = p.b
  · exact .inl h1
  by_cases h2 : k = p.sb
  · exact .inr (.inl h2)
  exact .inr (.inr (Classical.byContradiction fun h3 => h ⟨h1, h2, h3⟩))
theorem both_made {w w' : World} {p1 p2 : Pl} {D1 D2 : Dk} (h1 : DiskAt w p1 D1) (c1 : w.cell? ⟨p1.b, 4, none⟩ = some (.slice none 0 0)) (hb : Below w.heap.size w w') (h2 : DiskAt w' p2 D2) (c2 : w'.cell? ⟨p2.b, 4, none⟩ = some (.slice none 0 0))
    (hp : w.heap.size ≤ p2.b ∧ w.heap.size ≤ p2.sb ∧ w.heap.size ≤ p2.mb) : Both w' p1 p2 D1 D2 := by
  have l1 := h1.lt
  have l2 := h2.lt
  have hs := hb.size
  refine ⟨(h1.stay hb).elsewhere (keep hb c1) _ (fun k hk => ?_), h2.elsewhere c2 _ (fun k hk => ?_), fun k hk => ?_⟩
  · rcases Pl.not_off hk with rfl | rfl | rfl <;> omega
  · rcases Pl.not_off hk with rfl | rfl | rfl <;> omega
  · rcases Pl.not_off hk with rfl | rfl | rfl <;> exact ⟨by omega, by omega, by omega⟩
/-- A row that lies below. -/
theorem row_off {w : World} {a : Option Addr} {l : List UInt8} {c : Nat} (hrow : Row w a l c) {p : Pl} (hp : ∀ k, k < w.heap.size → p.Off k) : l ≠ [] → ∀ g, Go.Cit.blk a = some g → p.Off g := fun hne g hg => by
  obtain ⟨g2, off, e2⟩ := hrow.spot hne
  rw [e2] at hg hrow
  have e3 := blk_eq hg
  have := hrow.blk (i := 0) (List.length_pos_iff.2 hne)
  simp [ad] at this
  exact hp g (by omega)
theorem flushedR_same {D1 D2 : Dk} (h : D1.S = D2.S) (i : Int) : flushedR D1 i = flushedR D2 i := by unfold flushedR; rw [h]
theorem Both.armA {w : World} {p1 p2 : Pl} {D1 D2 : Dk} (h : Both w p1 p2 D1 D2) (at_ : Int) (h9 : at_ ≤ 9223372036854775807) (a : Option Addr) (l : List UInt8) (c : Nat) (hr : Row w a l c) (hl : l.length ≤ 1000000000) :
    Calls Try.prog 17 #[.pointer (some ⟨p1.b, 0, none⟩), .int .i64 at_, .slice a l.length c] w fun e w' => e = .returned (.int .i64 (armE D1 at_)) ∧ Both w' p1 p2 (armD D1 at_ l) D2 ∧ Save p1.Off w w' :=
  (arm_calls w _ D1 h.a at_ h9 a l c hr hl).mono fun _ _ ⟨h1, h2, h3⟩ => ⟨h1, h.setA h2 h3, h3⟩
theorem Both.doA {w : World} {p1 p2 : Pl} {D1 D2 : Dk} (h : Both w p1 p2 D1 D2) (x : Ac) (hx : x.At w) (hl : x.l.length ≤ 6000) (hxo : x.l ≠ [] → ∀ g, Go.Cit.blk x.a = some g → p1.Off g) :
    Calls Try.prog 29 #[.pointer (some ⟨p1.b, 0, none⟩), .agg x.cs.toArray] w fun e w' => e = .returned (.int .i64 (actE D1 x)) ∧ Both w' p1 p2 (actD D1 x) D2 ∧ Save p1.Off w w' :=
  (do_calls w _ D1 x h.a hx hl hxo).mono fun _ _ ⟨h1, h2, h3⟩ => ⟨h1, h.setA h2 h3, h3⟩
theorem Both.doB {w : World} {p1 p2 : Pl} {D1 D2 : Dk} (h : Both w p1 p2 D1 D2) (x : Ac) (hx : x.At w) (hl : x.l.length ≤ 6000) (hxo : x.l ≠ [] → ∀ g, Go.Cit.blk x.a = some g → p2.Off g) :
    Calls Try.prog 29 #[.pointer (some ⟨p2.b, 0, none⟩), .agg x.cs.toArray] w fun e w' => e = .returned (.int .i64 (actE D2 x)) ∧ Both w' p1 p2 D1 (actD D2 x) ∧ Save p2.Off w w' :=
  (do_calls w _ D2 x h.b hx hl hxo).mono fun _ _ ⟨h1, h2, h3⟩ => ⟨h1, h.setB h2 h3, h3⟩
theorem Both.crashB {w : World} {p1 p2 : Pl} {D1 D2 : Dk} (h : Both w p1 p2 D1 D2) (a : Option Addr) (l : List UInt8) (c : Nat) (hr : Row w a l c) (ha : l ≠ [] → ∀ g, Go.Cit.blk a = some g → p2.Off g) :
    Calls Try.prog 16 #[.pointer (some ⟨p2.b, 0, none⟩), .slice a l.length c] w fun e w' => e = .returned (.int .i64 (crashE D2)) ∧ Both w' p1 p2 D1 (crashT l D2) ∧ Save p2.Off w w' :=
  (crash_calls w _ D2 h.b a l c hr ha).mono fun _ _ ⟨h1, h2, h3⟩ => ⟨h1, h.setB h2 h3, h3⟩
theorem Both.upA {w : World} {p1 p2 : Pl} {D1 D2 : Dk} (h : Both w p1 p2 D1 D2) : Calls Try.prog 19 #[.pointer (some ⟨p1.b, 0, none⟩)] w fun e w' => e = .returned (.bool D1.up) ∧ w' = w := by have h2 := up_calls w { p1 with x := fun k => ¬ p2.Off k } D1 h.a; exact h2
theorem Both.upB {w : World} {p1 p2 : Pl} {D1 D2 : Dk} (h : Both w p1 p2 D1 D2) : Calls Try.prog 19 #[.pointer (some ⟨p2.b, 0, none⟩)] w fun e w' => e = .returned (.bool D2.up) ∧ w' = w := by have h2 := up_calls w { p2 with x := fun k => ¬ p1.Off k } D2 h.b; exact h2
theorem Both.flA {w : World} {p1 p2 : Pl} {D1 D2 : Dk} (h : Both w p1 p2 D1 D2) (i : Int) : Calls Try.prog 22 #[.pointer (some ⟨p1.b, 0, none⟩), .int .i64 i] w fun e w' =>
    ∃ a c, e = .returned (.slice a (flushedR D1 i).length c) ∧ Row w' a (flushedR D1 i) c ∧ Below w.heap.size w w' := (flushed_calls w _ D1 h.a i).mono fun _ _ ⟨a, c, h1, h2, h3⟩ => ⟨a, c, h1, h2.isRow, h3⟩
theorem Both.flB {w : World} {p1 p2 : Pl} {D1 D2 : Dk} (h : Both w p1 p2 D1 D2) (i : Int) : Calls Try.prog 22 #[.pointer (some ⟨p2.b, 0, none⟩), .int .i64 i] w fun e w' =>
    ∃ a c, e = .returned (.slice a (flushedR D2 i).length c) ∧ Row w' a (flushedR D2 i) c ∧ Below w.heap.size w w' := (flushed_calls w _ D2 h.b i).mono fun _ _ ⟨a, c, h1, h2, h3⟩ => ⟨a, c, h1, h2.isRow, h3⟩
end Go.Proofs.Ytofagofpeedfcaa
