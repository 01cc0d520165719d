/- The reference's disk in memory; its Read, Dirty, Start, Arm: walked. -/
import Derived.Test.YtofagofpeedfcaaDisk6
import Derived.Test.YtofagofpeedfcaaRefCat
import Derived.Test.YtofagofpeedfcaaLine
namespace Go.Proofs.Ytofagofpeedfcaa
open Go Go.RowKit Go.Cit

/-- A sector of the reference's disk. -/
structure Ro where
  f : List UInt8
  fa : Option Addr
  fc : Nat
  k : List UInt8
  ka : Option Addr
  kc : Nat
abbrev cRo (x : Ro) : List Value := [.slice x.fa x.f.length x.fc, .slice x.ka x.k.length x.kc]
def Ro.cache (x : Ro) : Option (List UInt8) := if x.ka.isNone then none else some x.k
/-- Where the reference's disk lies: itself, its sectors; its rows lie from B on; what is none of its. -/
structure Rl where
  b : Nat
  lb : Nat
  B : Nat
  x : Nat → Prop
def Rl.Off (r : Rl) (k : Nat) : Prop := k ≠ r.b ∧ k ≠ r.lb
def Rl.In (r : Rl) (n : Nat) (a : Option Addr) : Prop := ∀ g, blk a = some g → r.B ≤ g ∧ (r.Off g ∧ ¬ r.x g) ∧ g < n
theorem Rl.In.mono {r : Rl} {n m : Nat} {a : Option Addr} (h : r.In n a) (hn : n ≤ m) : r.In m a := fun g hg => ⟨(h g hg).1, (h g hg).2.1, Nat.lt_of_lt_of_le (h g hg).2.2 hn⟩
structure Ro.At (r : Rl) (w : World) (x : Ro) : Prop where
  rf : Row w x.fa x.f x.fc
  rk : Row w x.ka x.k x.kc
  inf : r.In w.heap.size x.fa
  ink : r.In w.heap.size x.ka
theorem Ro.At.save {r : Rl} {T : Nat → Prop} {w w' : World} {x : Ro} (h : x.At r w) (hs : Save T w w') (hT : ∀ k, r.B ≤ k → r.Off k → T k) : x.At r w' :=
  ⟨h.rf.save hs (fun g hg => hT g (h.inf g hg).1 (h.inf g hg).2.1.1), h.rk.save hs (fun g hg => hT g (h.ink g hg).1 (h.ink g hg).2.1.1), h.inf.mono hs.size, h.ink.mono hs.size⟩
abbrev rdCells (r : Rl) (D : Dk) (n c : Nat) (sa : Option Addr) (sc : Nat) : Array Value := #[.slice (some ⟨r.lb, 0, none⟩) n c, .bool (!D.up), .int .i64 (D.left : Int), .slice sa D.stay.length sc]
structure RefIn (w : World) (r : Rl) (D : Dk) (L : List Ro) (c : Nat) (sa : Option Addr) (sc : Nat) : Prop where
  box : w.heap[r.b]? = some (.cells (rdCells r D L.length c sa sc) 89 (0, 0))
  held : Held cRo 2 91 w r.lb L c
  rows : ∀ x ∈ L, x.At r w
  srow : Row w sa D.stay sc
  sin : r.In w.heap.size sa
  ne : r.b ≠ r.lb
  bB : r.B ≤ r.b
  lB : r.B ≤ r.lb
  nx : ¬ r.x r.b ∧ ¬ r.x r.lb
  xlt : ∀ k, r.x k → k < w.heap.size
  hS : D.S = L.map (·.f)
  hC : D.C = L.map Ro.cache
  ok : D.Ok
def RefAt (w : World) (r : Rl) (D : Dk) : Prop := ∃ L c sa sc, RefIn w r D L c sa sc
theorem RefIn.save {w w' : World} {r : Rl} {D : Dk} {L : List Ro} {c sc : Nat} {sa : Option Addr} (h : RefIn w r D L c sa sc) {T : Nat → Prop} (hs : Save T w w') (hT : ∀ k, r.B ≤ k → T k) : RefIn w' r D L c sa sc :=
  ⟨(hs.block _ (Array.getElem?_eq_some_iff.1 h.box).1 (hT _ h.bB)).trans h.box, h.held.save (fun _ => rfl) hs (hT _ h.lB), fun x hx => (h.rows x hx).save hs (fun k hk _ => hT k hk), h.srow.save hs (fun g hg => hT g (h.sin g hg).1), h.sin.mono hs.size, h.ne, h.bB, h.lB, h.nx, fun k hk => Nat.lt_of_lt_of_le (h.xlt k hk) hs.size, h.hS, h.hC, h.ok⟩
theorem RefAt.save {w w' : World} {r : Rl} {D : Dk} (h : RefAt w r D) {T : Nat → Prop} (hs : Save T w w') (hT : ∀ k, r.B ≤ k → T k) : RefAt w' r D := by
  obtain ⟨L, c, sa, sc, h⟩ := h
  exact ⟨L, c, sa, sc, h.save hs hT⟩
theorem RefAt.stay {w w' : World} {r : Rl} {D : Dk} (h : RefAt w r D) (hb : Below w.heap.size w w') : RefAt w' r D := h.save (T := fun _ => True) (Save.of hb) (fun _ _ => trivial)
theorem RefIn.stay {w w' : World} {r : Rl} {D : Dk} {L : List Ro} {c sc : Nat} {sa : Option Addr} (h : RefIn w r D L c sa sc) (hb : Below w.heap.size w w') : RefIn w' r D L c sa sc := h.save (T := fun _ => True) (Save.of hb) (fun _ _ => trivial)
theorem Rl.In.more {r : Rl} {n m : Nat} {a : Option Addr} (h : r.In n a) (hm : n ≤ m) : ({ r with x := fun k => r.x k ∨ (n ≤ k ∧ k < m) } : Rl).In m a := fun g hg => ⟨(h g hg).1, ⟨(h g hg).2.1.1, fun hx => hx.elim (h g hg).2.1.2 (fun hx => by have := (h g hg).2.2; omega)⟩, Nat.lt_of_lt_of_le (h g hg).2.2 hm⟩
/-- The same disk, where what has been laid since is none of its. -/
theorem RefAt.more {w w1 : World} {r : Rl} {D : Dk} (h : RefAt w r D) (hb : Below w.heap.size w w1) : RefAt w1 { r with x := fun k => r.x k ∨ (w.heap.size ≤ k ∧ k < w1.heap.size) } D := by
  obtain ⟨L, c, sa, sc, h⟩ := h
  have h1 := h.stay hb
  have hbl := (Array.getElem?_eq_some_iff.1 h.box).1
  have hll := (Array.getElem?_eq_some_iff.1 h.held.blk.choose_spec).1
  exact ⟨L, c, sa, sc, h1.box, h1.held, fun x hx => ⟨(h1.rows x hx).rf, (h1.rows x hx).rk, (h.rows x hx).inf.more hb.size, (h.rows x hx).ink.more hb.size⟩, h1.srow, h.sin.more hb.size, h1.ne, h1.bB, h1.lB, ⟨fun e => e.elim h.nx.1 (fun e => by have e1 : w.heap.size ≤ r.b := e.1; omega), fun e => e.elim h.nx.2 (fun e => by have e1 : w.heap.size ≤ r.lb := e.1; omega)⟩, fun k hk => hk.elim (h1.xlt k) (fun e => e.2), h1.hS, h1.hC, h1.ok⟩
theorem RefAt.less {w : World} {r : Rl} {D : Dk} {x : Nat → Prop} (h : RefAt w { r with x := x } D) (hx : ∀ k, r.x k → x k) : RefAt w r D := by
  obtain ⟨L, c, sa, sc, h⟩ := h
  have hI : ∀ {a : Option Addr}, ({ r with x := x } : Rl).In w.heap.size a → r.In w.heap.size a := fun hi g hg => ⟨(hi g hg).1, ⟨(hi g hg).2.1.1, fun e => (hi g hg).2.1.2 (hx g e)⟩, (hi g hg).2.2⟩
  exact ⟨L, c, sa, sc, h.box, h.held, fun y hy => ⟨(h.rows y hy).rf, (h.rows y hy).rk, hI (h.rows y hy).inf, hI (h.rows y hy).ink⟩, h.srow, hI h.sin, h.ne, h.bB, h.lB, ⟨fun e => h.nx.1 (hx _ e), fun e => h.nx.2 (hx _ e)⟩, fun k hk => h.xlt k (hx k hk), h.hS, h.hC, h.ok⟩
/-- What is none of the reference's disk may be written. -/
theorem RefAt.saveX {w w' : World} {r : Rl} {D : Dk} (h : RefAt w r D) {T : Nat → Prop} (hs : Save T w w') (hX : ∀ k, r.B ≤ k → ¬ r.x k → T k) : RefAt w' r D := by
  obtain ⟨L, c, sa, sc, h⟩ := h
  have hI : ∀ {a : Option Addr}, r.In w.heap.size a → ∀ g, blk a = some g → T g := fun hi g hg => hX g (hi g hg).1 (hi g hg).2.1.2
  exact ⟨L, c, sa, sc, (hs.block _ (Array.getElem?_eq_some_iff.1 h.box).1 (hX _ h.bB h.nx.1)).trans h.box, h.held.save (fun _ => rfl) hs (hX _ h.lB h.nx.2), fun x hx => ⟨(h.rows x hx).rf.save hs (hI (h.rows x hx).inf), (h.rows x hx).rk.save hs (hI (h.rows x hx).ink), (h.rows x hx).inf.mono hs.size, (h.rows x hx).ink.mono hs.size⟩, h.srow.save hs (hI h.sin), h.sin.mono hs.size, h.ne, h.bB, h.lB, h.nx, fun k hk => Nat.lt_of_lt_of_le (h.xlt k hk) hs.size, h.hS, h.hC, h.ok⟩
theorem RefIn.len {w : World} {r : Rl} {D : Dk} {L : List Ro} {c sc : Nat} {sa : Option Addr} (h : RefIn w r D L c sa sc) : L.length = D.S.length := by rw [h.hS, List.length_map]
theorem RefIn.cells {w : World} {r : Rl} {D : Dk} {L : List Ro} {c sc : Nat} {sa : Option Addr} (h : RefIn w r D L c sa sc) : w.cell? ⟨r.b, 0, none⟩ = some (.slice (some ⟨r.lb, 0, none⟩) L.length c) ∧ w.cell? ⟨r.b, 1, none⟩ = some (.bool (!D.up)) ∧ w.cell? ⟨r.b, 2, none⟩ = some (.int .i64 (D.left : Int)) ∧ w.cell? ⟨r.b, 3, none⟩ = some (.slice sa D.stay.length sc) ∧ ∀ i, w.frozen? ⟨r.b, i, none⟩ = false := by
  refine ⟨?_, ?_, ?_, ?_, fun i => by rw [World.frozen?, h.box]; simp⟩ <;> (rw [World.cell?, h.box]; rfl)
theorem etR : ElemType Try.prog 87 91 2 48 (.agg #[.slice none 0 0, .slice none 0 0]) := ⟨Try.underlying87, by kernel_rfl, fun w => by kernel_rfl, rfl, by decide, by decide⟩
theorem ro_index (g n c i : Nat) (hi : i < n) (w : World) : (Instr.indexAt 87 (.slice (some ⟨g, 0, none⟩) n c) (.int .i64 (i : Int))).run Try.prog w = .ok (.pointer (some ⟨g, i * 2, none⟩)) w := by
  have hT := etR.slice
  have he : Try.prog.elem 87 = 91 := by simp [Program.elem, hT]
  rw [run_indexAt_slice w _ _ _ _ _ _ (by rw [he]; exact hT), if_pos (by omega), he, etR.sz]
  simp only [Result.andThen, Addr.add]
  by_cases h0 : i * 2 = 0
  · simp [h0]
  · simp [h0]
theorem RefIn.elem {w : World} {r : Rl} {D : Dk} {L : List Ro} {c sc : Nat} {sa : Option Addr} (h : RefIn w r D L c sa sc) (i : Nat) (hi : i < L.length) :
    w.cell? ⟨r.lb, i * 2, none⟩ = some (.slice L[i].fa L[i].f.length L[i].fc) ∧ w.cell? ⟨r.lb, i * 2 + 1, none⟩ = some (.slice L[i].ka L[i].k.length L[i].kc) := by
  have h0 := h.held.vec.cell i hi 0 (by decide)
  have h1 := h.held.vec.cell i hi 1 (by decide)
  rw [ad_some] at h0 h1
  exact ⟨h0, h1⟩
theorem nilSl (w : World) (a : Option Addr) (n c : Nat) : (binOp .neq 22 (.slice a n c) (.slice none 0 0)).run Try.prog w = .ok (.bool a.isSome) w := by
  have := run_neq_slice_nil_any (P := Try.prog) w 22 5 a n c 0 0 Try.underlying22
  cases a <;> exact this
theorem RefIn.get {w : World} {r : Rl} {D : Dk} {L : List Ro} {c sc : Nat} {sa : Option Addr} (h : RefIn w r D L c sa sc) (i : Nat) (hi : i < L.length) : getR D i = if L[i].ka.isNone then L[i].f else L[i].k := by
  rw [getR, h.hC, h.hS]
  simp only [List.getElem?_map, List.getElem?_eq_getElem hi, Option.map_some, Option.join_some, Option.getD_some, Ro.cache]
  cases L[i].ka <;> rfl
theorem RefIn.fl {w : World} {r : Rl} {D : Dk} {L : List Ro} {c sc : Nat} {sa : Option Addr} (h : RefIn w r D L c sa sc) (i : Nat) (hi : i < L.length) : L[i].f.length = 64 := by
  refine h.ok.sec _ ?_
  rw [h.hS]
  exact List.mem_map.2 ⟨L[i], List.getElem_mem hi, rfl⟩
theorem RefIn.kl {w : World} {r : Rl} {D : Dk} {L : List Ro} {c sc : Nat} {sa : Option Addr} (h : RefIn w r D L c sa sc) (i : Nat) (hi : i < L.length) (hk : L[i].ka ≠ none) : L[i].k.length = 64 := by
  refine h.ok.cac _ ?_
  rw [h.hC]
  refine List.mem_map.2 ⟨L[i], List.getElem_mem hi, ?_⟩
  rw [Ro.cache]
  cases hx : L[i].ka with
  | none => exact absurd hx hk
  | some a => rfl

set_option maxRecDepth 100000 in
set_option maxHeartbeats 1000000 in
theorem rread_calls (w : World) (r : Rl) (D : Dk) (h : RefAt w r D) (i : Int) : Calls Try.prog 53 #[.pointer (some ⟨r.b, 0, none⟩), .int .i64 i] w fun e w' =>
    ∃ a c, e = .returned (.tuple #[.slice a (readR D i).length c, .int .i64 (readE D i)]) ∧ Cit.Own 5 w.heap.size w' a (readR D i) c ∧ Below w.heap.size w w' := by
  obtain ⟨L, c, sa, sc, h⟩ := h
  obtain ⟨c0, c1, _⟩ := h.cells
  have hlen := h.len
  have hfew := h.ok.few
  have hns := nilSl
  by_cases hu : D.up = true
  · rw [hu] at c1
    by_cases hi : 0 ≤ i ∧ i < D.S.length
    · have HF : readE D i = 0 := by rw [readE, if_neg (by rw [hu]; simp), if_pos hi]
      have HG : readR D i = getR D i.toNat := by rw [readR, if_pos ⟨hu, hi⟩]
      rw [HF, HG]
      obtain ⟨k, rfl⟩ : ∃ k : Nat, i = (k : Int) := ⟨i.toNat, by omega⟩
      rw [Int.toNat_natCast]
      have hk : k < L.length := by omega
      have hx := fun w => ro_index r.lb L.length c k hk w
      obtain ⟨e0, e1⟩ := h.elem k hk
      have hg := h.get k hk
      have hf := h.fl k hk
      have hat := h.rows _ (List.getElem_mem hk)
      have t1 : ¬ (k : Int) ≥ L.length := by omega
      have t2 : ¬ (L.length : Int) ≤ k := by omega
      have t3 : ¬ L.length ≤ k := by omega
      have hkk := h.kl k hk
      generalize L[k] = x at *
      generalize hN : L.length = N at *
      clear hi HF HG h
      cases hka : x.ka with
      | none =>
        rw [hka] at hg e1
        simp only [Option.isNone_none, if_true] at hg
        rw [hg]
        have hc := copy_calls w _ _ _ hat.rf (by omega)
        rw [hf] at hc e0 ⊢
        clear hg hat hkk hk hlen
        go_enter Try.func53, Try.ntmps53
        go_wp2_with fail
        refine (hc).mono ?_
        rintro e w2 ⟨a2, c2, rfl, hO, hb⟩
        go_wp2_with fail
        go_ret2
        exact ⟨a2, c2, rfl, hO, hb⟩
      | some ad0 =>
        rw [hka] at hg e1
        simp only [Option.isNone_some, Bool.false_eq_true, if_false] at hg
        rw [hg]
        have hk64 := hkk (by rw [hka]; simp)
        have hrk := hat.rk
        rw [hka] at hrk
        have hc := copy_calls w _ _ _ hrk (by omega)
        rw [hk64] at hc e1 ⊢
        clear hg hat hkk hrk hk hlen
        go_enter Try.func53, Try.ntmps53
        go_wp2_with fail
        refine (hc).mono ?_
        rintro e w2 ⟨a2, c2, rfl, hO, hb⟩
        go_wp2_with fail
        go_ret2
        exact ⟨a2, c2, rfl, hO, hb⟩
    · have HF : readE D i = 61 := by rw [readE, if_neg (by rw [hu]; simp), if_neg hi]
      have HG : readR D i = [] := by rw [readR, if_neg (fun e => hi e.2)]
      rw [HF, HG]
      rw [← hlen] at hi hfew
      generalize L.length = N at *
      clear h HF HG
      by_cases h0 : i < 0
      · go_enter Try.func53, Try.ntmps53
        go_wp2_with fail
        go_ret2
        exact ⟨none, 0, rfl, Cit.Own.nil _ _ _, Below.refl _ _⟩
      · have t1 : (N : Int) ≤ i := by omega
        go_enter Try.func53, Try.ntmps53
        go_wp2_with fail
        go_ret2
        exact ⟨none, 0, rfl, Cit.Own.nil _ _ _, Below.refl _ _⟩
  · have hu : D.up = false := by simpa using hu
    rw [hu] at c1
    have HF : readE D i = 60 := by rw [readE, if_pos hu]
    have HG : readR D i = [] := by rw [readR, if_neg (by rw [hu]; simp)]
    rw [HF, HG]
    clear h HF HG
    go_enter Try.func53, Try.ntmps53
    go_wp2_with fail
    go_ret2
    exact ⟨none, 0, rfl, Cit.Own.nil _ _ _, Below.refl _ _⟩
end Go.Proofs.Ytofagofpeedfcaa
