/- Texts of the proof, one behind the other: RDisk1, RDisk2, RDisk3. No condition but those that each names. -/
import Derived.Test.YtofagofpeedfcaaGreatDisk6
import Derived.Test.YtofagofpeedfcaaGreatGb
import Derived.Test.YtofagofpeedfcaaGreatLine
import Derived.StillTailTactics
/- The reference's disk in memory; its Read, Dirty, Start, Arm: walked. -/
namespace Go.Proofs.YtofagofpeedfcaaGreat
open Go Go.RowKit Go.Cit

/-- A sector of the reference's disk. -/
structure Ro where
  f : List UInt8
  fa : Option Addr
  fc : Nat
  k : List UInt8
  ka : Option Addr
  kc : Nat
abbrev cRo (x : Ro) : List Value := [.slice x.fa x.f.length x.fc, .slice x.ka x.k.length x.kc]
def Ro.cache (x : Ro) : Option (List UInt8) := if x.ka.isNone then none else some x.k
/-- Where the reference's disk lies: itself, its sectors; its rows lie from B on; what is none of its. -/
structure Rl where
  b : Nat
  lb : Nat
  B : Nat
  x : Nat → Prop
def Rl.Off (r : Rl) (k : Nat) : Prop := k ≠ r.b ∧ k ≠ r.lb
def Rl.In (r : Rl) (n : Nat) (a : Option Addr) : Prop := ∀ g, blk a = some g → r.B ≤ g ∧ (r.Off g ∧ ¬ r.x g) ∧ g < n
theorem Rl.In.mono {r : Rl} {n m : Nat} {a : Option Addr} (h : r.In n a) (hn : n ≤ m) : r.In m a := fun g hg => ⟨(h g hg).1, (h g hg).2.1, Nat.lt_of_lt_of_le (h g hg).2.2 hn⟩
structure Ro.At (r : Rl) (w : World) (x : Ro) : Prop where
  rf : Row w x.fa x.f x.fc
  rk : Row w x.ka x.k x.kc
  inf : r.In w.heap.size x.fa
  ink : r.In w.heap.size x.ka
theorem Ro.At.save {r : Rl} {T : Nat → Prop} {w w' : World} {x : Ro} (h : x.At r w) (hs : Save T w w') (hT : ∀ k, r.B ≤ k → r.Off k → T k) : x.At r w' :=
  ⟨h.rf.save hs (fun g hg => hT g (h.inf g hg).1 (h.inf g hg).2.1.1), h.rk.save hs (fun g hg => hT g (h.ink g hg).1 (h.ink g hg).2.1.1), h.inf.mono hs.size, h.ink.mono hs.size⟩
abbrev rdCells (r : Rl) (D : Dk) (n c : Nat) (sa : Option Addr) (sc : Nat) : Array Value := #[.slice (some ⟨r.lb, 0, none⟩) n c, .bool (!D.up), .int .i64 (D.left : Int), .slice sa D.stay.length sc]
structure RefIn (w : World) (r : Rl) (D : Dk) (L : List Ro) (c : Nat) (sa : Option Addr) (sc : Nat) : Prop where
  box : w.heap[r.b]? = some (.cells (rdCells r D L.length c sa sc) 42 (0, 0))
  held : Held cRo 2 44 w r.lb L c
  rows : ∀ x ∈ L, x.At r w
  srow : Row w sa D.stay sc
  sin : r.In w.heap.size sa
  ne : r.b ≠ r.lb
  bB : r.B ≤ r.b
  lB : r.B ≤ r.lb
  nx : ¬ r.x r.b ∧ ¬ r.x r.lb
  xlt : ∀ k, r.x k → k < w.heap.size
  hS : D.S = L.map (·.f)
  hC : D.C = L.map Ro.cache
  ok : D.Ok
def RefAt (w : World) (r : Rl) (D : Dk) : Prop := ∃ L c sa sc, RefIn w r D L c sa sc
theorem RefIn.save {w w' : World} {r : Rl} {D : Dk} {L : List Ro} {c sc : Nat} {sa : Option Addr} (h : RefIn w r D L c sa sc) {T : Nat → Prop} (hs : Save T w w') (hT : ∀ k, r.B ≤ k → T k) : RefIn w' r D L c sa sc :=
  ⟨(hs.block _ (Array.getElem?_eq_some_iff.1 h.box).1 (hT _ h.bB)).trans h.box, h.held.save (fun _ => rfl) hs (hT _ h.lB), fun x hx => (h.rows x hx).save hs (fun k hk _ => hT k hk), h.srow.save hs (fun g hg => hT g (h.sin g hg).1), h.sin.mono hs.size, h.ne, h.bB, h.lB, h.nx, fun k hk => Nat.lt_of_lt_of_le (h.xlt k hk) hs.size, h.hS, h.hC, h.ok⟩
theorem RefAt.save {w w' : World} {r : Rl} {D : Dk} (h : RefAt w r D) {T : Nat → Prop} (hs : Save T w w') (hT : ∀ k, r.B ≤ k → T k) : RefAt w' r D := by
  obtain ⟨L, c, sa, sc, h⟩ := h
  exact ⟨L, c, sa, sc, h.save hs hT⟩
theorem RefAt.stay {w w' : World} {r : Rl} {D : Dk} (h : RefAt w r D) (hb : Below w.heap.size w w') : RefAt w' r D := h.save (T := fun _ => True) (Save.of hb) (fun _ _ => trivial)
theorem RefIn.stay {w w' : World} {r : Rl} {D : Dk} {L : List Ro} {c sc : Nat} {sa : Option Addr} (h : RefIn w r D L c sa sc) (hb : Below w.heap.size w w') : RefIn w' r D L c sa sc := h.save (T := fun _ => True) (Save.of hb) (fun _ _ => trivial)
theorem Rl.In.more {r : Rl} {n m : Nat} {a : Option Addr} (h : r.In n a) (hm : n ≤ m) : ({ r with x := fun k => r.x k ∨ (n ≤ k ∧ k < m) } : Rl).In m a := fun g hg => ⟨(h g hg).1, ⟨(h g hg).2.1.1, fun hx => hx.elim (h g hg).2.1.2 (fun hx => by have := (h g hg).2.2; omega)⟩, Nat.lt_of_lt_of_le (h g hg).2.2 hm⟩
/-- The same disk, where what has been laid since is none of its. -/
theorem RefAt.more {w w1 : World} {r : Rl} {D : Dk} (h : RefAt w r D) (hb : Below w.heap.size w w1) : RefAt w1 { r with x := fun k => r.x k ∨ (w.heap.size ≤ k ∧ k < w1.heap.size) } D := by
  obtain ⟨L, c, sa, sc, h⟩ := h
  have h1 := h.stay hb
  have hbl := (Array.getElem?_eq_some_iff.1 h.box).1
  have hll := (Array.getElem?_eq_some_iff.1 h.held.blk.choose_spec).1
  exact ⟨L, c, sa, sc, h1.box, h1.held, fun x hx => ⟨(h1.rows x hx).rf, (h1.rows x hx).rk, (h.rows x hx).inf.more hb.size, (h.rows x hx).ink.more hb.size⟩, h1.srow, h.sin.more hb.size, h1.ne, h1.bB, h1.lB, ⟨fun e => e.elim h.nx.1 (fun e => by have e1 : w.heap.size ≤ r.b := e.1; omega), fun e => e.elim h.nx.2 (fun e => by have e1 : w.heap.size ≤ r.lb := e.1; omega)⟩, fun k hk => hk.elim (h1.xlt k) (fun e => e.2), h1.hS, h1.hC, h1.ok⟩
theorem RefAt.less {w : World} {r : Rl} {D : Dk} {x : Nat → Prop} (h : RefAt w { r with x := x } D) (hx : ∀ k, r.x k → x k) : RefAt w r D := by
  obtain ⟨L, c, sa, sc, h⟩ := h
  have hI : ∀ {a : Option Addr}, ({ r with x := x } : Rl).In w.heap.size a → r.In w.heap.size a := fun hi g hg => ⟨(hi g hg).1, ⟨(hi g hg).2.1.1, fun e => (hi g hg).2.1.2 (hx g e)⟩, (hi g hg).2.2⟩
  exact ⟨L, c, sa, sc, h.box, h.held, fun y hy => ⟨(h.rows y hy).rf, (h.rows y hy).rk, hI (h.rows y hy).inf, hI (h.rows y hy).ink⟩, h.srow, hI h.sin, h.ne, h.bB, h.lB, ⟨fun e => h.nx.1 (hx _ e), fun e => h.nx.2 (hx _ e)⟩, fun k hk => h.xlt k (hx k hk), h.hS, h.hC, h.ok⟩
/-- What is none of the reference's disk may be written. -/
theorem RefAt.saveX {w w' : World} {r : Rl} {D : Dk} (h : RefAt w r D) {T : Nat → Prop} (hs : Save T w w') (hX : ∀ k, r.B ≤ k → ¬ r.x k → T k) : RefAt w' r D := by
  obtain ⟨L, c, sa, sc, h⟩ := h
  have hI : ∀ {a : Option Addr}, r.In w.heap.size a → ∀ g, blk a = some g → T g := fun hi g hg => hX g (hi g hg).1 (hi g hg).2.1.2
  exact ⟨L, c, sa, sc, (hs.block _ (Array.getElem?_eq_some_iff.1 h.box).1 (hX _ h.bB h.nx.1)).trans h.box, h.held.save (fun _ => rfl) hs (hX _ h.lB h.nx.2), fun x hx => ⟨(h.rows x hx).rf.save hs (hI (h.rows x hx).inf), (h.rows x hx).rk.save hs (hI (h.rows x hx).ink), (h.rows x hx).inf.mono hs.size, (h.rows x hx).ink.mono hs.size⟩, h.srow.save hs (hI h.sin), h.sin.mono hs.size, h.ne, h.bB, h.lB, h.nx, fun k hk => Nat.lt_of_lt_of_le (h.xlt k hk) hs.size, h.hS, h.hC, h.ok⟩
theorem RefIn.len {w : World} {r : Rl} {D : Dk} {L : List Ro} {c sc : Nat} {sa : Option Addr} (h : RefIn w r D L c sa sc) : L.length = D.S.length := by rw [h.hS, List.length_map]
theorem RefIn.cells {w : World} {r : Rl} {D : Dk} {L : List Ro} {c sc : Nat} {sa : Option Addr} (h : RefIn w r D L c sa sc) : w.cell? ⟨r.b, 0, none⟩ = some (.slice (some ⟨r.lb, 0, none⟩) L.length c) ∧ w.cell? ⟨r.b, 1, none⟩ = some (.bool (!D.up)) ∧ w.cell? ⟨r.b, 2, none⟩ = some (.int .i64 (D.left : Int)) ∧ w.cell? ⟨r.b, 3, none⟩ = some (.slice sa D.stay.length sc) ∧ ∀ i, w.frozen? ⟨r.b, i, none⟩ = false := by
  refine ⟨?_, ?_, ?_, ?_, fun i => by rw [World.frozen?, h.box]; simp⟩ <;> (rw [World.cell?, h.box]; rfl)
theorem etR : ElemType Tryz.prog 40 44 2 48 (.agg #[.slice none 0 0, .slice none 0 0]) := ⟨Tryz.underlying40, by kernel_rfl, fun w => by kernel_rfl, rfl, by decide, by decide⟩
theorem ro_index (g n c i : Nat) (hi : i < n) (w : World) : (Instr.indexAt 40 (.slice (some ⟨g, 0, none⟩) n c) (.int .i64 (i : Int))).run Tryz.prog w = .ok (.pointer (some ⟨g, i * 2, none⟩)) w := by
  have hT := etR.slice
  have he : Tryz.prog.elem 40 = 44 := by simp [Program.elem, hT]
  rw [run_indexAt_slice w _ _ _ _ _ _ (by rw [he]; exact hT), if_pos (by omega), he, etR.sz]
  simp only [Result.andThen, Addr.add]
  by_cases h0 : i * 2 = 0
  · simp [h0]
  · simp [h0]
theorem RefIn.elem {w : World} {r : Rl} {D : Dk} {L : List Ro} {c sc : Nat} {sa : Option Addr} (h : RefIn w r D L c sa sc) (i : Nat) (hi : i < L.length) :
    w.cell? ⟨r.lb, i * 2, none⟩ = some (.slice L[i].fa L[i].f.length L[i].fc) ∧ w.cell? ⟨r.lb, i * 2 + 1, none⟩ = some (.slice L[i].ka L[i].k.length L[i].kc) := by
  have h0 := h.held.vec.cell i hi 0 (by decide)
  have h1 := h.held.vec.cell i hi 1 (by decide)
  rw [ad_some] at h0 h1
  exact ⟨h0, h1⟩
theorem nilSl (w : World) (a : Option Addr) (n c : Nat) : (binOp .neq 31 (.slice a n c) (.slice none 0 0)).run Tryz.prog w = .ok (.bool a.isSome) w := by
  have := run_neq_slice_nil_any (P := Tryz.prog) w 31 5 a n c 0 0 Tryz.underlying31
  cases a <;> exact this
theorem RefIn.get {w : World} {r : Rl} {D : Dk} {L : List Ro} {c sc : Nat} {sa : Option Addr} (h : RefIn w r D L c sa sc) (i : Nat) (hi : i < L.length) : getR D i = if L[i].ka.isNone then L[i].f else L[i].k := by
  rw [getR, h.hC, h.hS]
  simp only [List.getElem?_map, List.getElem?_eq_getElem hi, Option.map_some, Option.join_some, Option.getD_some, Ro.cache]
  cases L[i].ka <;> rfl
theorem RefIn.fl {w : World} {r : Rl} {D : Dk} {L : List Ro} {c sc : Nat} {sa : Option Addr} (h : RefIn w r D L c sa sc) (i : Nat) (hi : i < L.length) : L[i].f.length = 64 := by
  refine h.ok.sec _ ?_
  rw [h.hS]
  exact List.mem_map.2 ⟨L[i], List.getElem_mem hi, rfl⟩
theorem RefIn.kl {w : World} {r : Rl} {D : Dk} {L : List Ro} {c sc : Nat} {sa : Option Addr} (h : RefIn w r D L c sa sc) (i : Nat) (hi : i < L.length) (hk : L[i].ka ≠ none) : L[i].k.length = 64 := by
  refine h.ok.cac _ ?_
  rw [h.hC]
  refine List.mem_map.2 ⟨L[i], List.getElem_mem hi, ?_⟩
  rw [Ro.cache]
  cases hx : L[i].ka with
  | none => exact absurd hx hk
  | some a => rfl

set_option maxRecDepth 100000 in
set_option maxHeartbeats 1000000 in
theorem rread_calls (w : World) (r : Rl) (D : Dk) (h : RefAt w r D) (i : Int) : Calls Tryz.prog 30 #[.pointer (some ⟨r.b, 0, none⟩), .int .i64 i] w fun e w' =>
    ∃ a c, e = .returned (.tuple #[.slice a (readR D i).length c, .int .i64 (readE D i)]) ∧ Cit.Own 5 w.heap.size w' a (readR D i) c ∧ Below w.heap.size w w' := by
  obtain ⟨L, c, sa, sc, h⟩ := h
  obtain ⟨c0, c1, _⟩ := h.cells
  have hlen := h.len
  have hfew := h.ok.few
  have hns := nilSl
  by_cases hu : D.up = true
  · rw [hu] at c1
    by_cases hi : 0 ≤ i ∧ i < D.S.length
    · have HF : readE D i = 0 := by rw [readE, if_neg (by rw [hu]; simp), if_pos hi]
      have HG : readR D i = getR D i.toNat := by rw [readR, if_pos ⟨hu, hi⟩]
      rw [HF, HG]
      obtain ⟨k, rfl⟩ : ∃ k : Nat, i = (k : Int) := ⟨i.toNat, by omega⟩
      rw [Int.toNat_natCast]
      have hk : k < L.length := by omega
      have hx := fun w => ro_index r.lb L.length c k hk w
      obtain ⟨e0, e1⟩ := h.elem k hk
      have hg := h.get k hk
      have hf := h.fl k hk
      have hat := h.rows _ (List.getElem_mem hk)
      have t1 : ¬ (k : Int) ≥ L.length := by omega
      have t2 : ¬ (L.length : Int) ≤ k := by omega
      have t3 : ¬ L.length ≤ k := by omega
      have hkk := h.kl k hk
      generalize L[k] = x at *
      generalize hN : L.length = N at *
      clear hi HF HG h
      cases hka : x.ka with
      | none =>
        rw [hka] at hg e1
        simp only [Option.isNone_none, if_true] at hg
        rw [hg]
        have hc := copy_calls w _ _ _ hat.rf (by omega)
        rw [hf] at hc e0 ⊢
        clear hg hat hkk hk hlen
        go_enter Tryz.func30, Tryz.ntmps30
        go_wp2_with fail
        refine (hc).mono ?_
        rintro e w2 ⟨a2, c2, rfl, hO, hb⟩
        go_wp2_with fail
        go_ret2
        exact ⟨a2, c2, rfl, hO, hb⟩
      | some ad0 =>
        rw [hka] at hg e1
        simp only [Option.isNone_some, Bool.false_eq_true, if_false] at hg
        rw [hg]
        have hk64 := hkk (by rw [hka]; simp)
        have hrk := hat.rk
        rw [hka] at hrk
        have hc := copy_calls w _ _ _ hrk (by omega)
        rw [hk64] at hc e1 ⊢
        clear hg hat hkk hrk hk hlen
        go_enter Tryz.func30, Tryz.ntmps30
        go_wp2_with fail
        refine (hc).mono ?_
        rintro e w2 ⟨a2, c2, rfl, hO, hb⟩
        go_wp2_with fail
        go_ret2
        exact ⟨a2, c2, rfl, hO, hb⟩
    · have HF : readE D i = 61 := by rw [readE, if_neg (by rw [hu]; simp), if_neg hi]
      have HG : readR D i = [] := by rw [readR, if_neg (fun e => hi e.2)]
      rw [HF, HG]
      rw [← hlen] at hi hfew
      generalize L.length = N at *
      clear h HF HG
      by_cases h0 : i < 0
      · go_enter Tryz.func30, Tryz.ntmps30
        go_wp2_with fail
        go_ret2
        exact ⟨none, 0, rfl, Cit.Own.nil _ _ _, Below.refl _ _⟩
      · have t1 : (N : Int) ≤ i := by omega
        go_enter Tryz.func30, Tryz.ntmps30
        go_wp2_with fail
        go_ret2
        exact ⟨none, 0, rfl, Cit.Own.nil _ _ _, Below.refl _ _⟩
  · have hu : D.up = false := by simpa using hu
    rw [hu] at c1
    have HF : readE D i = 60 := by rw [readE, if_pos hu]
    have HG : readR D i = [] := by rw [readR, if_neg (by rw [hu]; simp)]
    rw [HF, HG]
    clear h HF HG
    go_enter Tryz.func30, Tryz.ntmps30
    go_wp2_with fail
    go_ret2
    exact ⟨none, 0, rfl, Cit.Own.nil _ _ _, Below.refl _ _⟩
end Go.Proofs.YtofagofpeedfcaaGreat

/- The reference's disk: Dirty, Start, Arm: walked. -/
namespace Go.Proofs.YtofagofpeedfcaaGreat
open Go Go.RowKit Go.Cit

/-- The numbers below k that are in a cache. -/
def dirtyP (C : CacheV) (k : Nat) : List Nat := (List.range k).filter fun j => (C[j]?.join).isSome
theorem dirtyP_all (C : CacheV) : dirtyP C C.length = dirtyL C := rfl
theorem dirtyP_succ (C : CacheV) (k : Nat) : dirtyP C (k + 1) = dirtyP C k ++ if (C[k]?.join).isSome then [k] else [] := by
  unfold dirtyP
  rw [List.range_succ, List.filter_append]
  congr 1
  simp only [List.filter_cons, List.filter_nil]
theorem dirtyP_len (C : CacheV) (k : Nat) : (dirtyP C k).length ≤ k := by
  unfold dirtyP
  exact Nat.le_trans (List.length_filter_le _ _) (by simp)
theorem dirtyP_take (C : CacheV) {k : Nat} (hk : k ≤ C.length) : dirtyP C k = (dirtyL C).take (dirtyP C k).length := by
  have : dirtyL C = dirtyP C k ++ ((List.range (C.length - k)).map (k + ·)).filter fun j => (C[j]?.join).isSome := by
    unfold dirtyP dirtyL
    rw [← List.filter_append, ← List.range_add, Nat.add_sub_cancel' hk]
  rw [this, List.take_left]
theorem RefIn.some_ {w : World} {r : Rl} {D : Dk} {L : List Ro} {c sc : Nat} {sa : Option Addr} (h : RefIn w r D L c sa sc) (i : Nat) (hi : i < L.length) : (D.C[i]?.join).isSome = L[i].ka.isSome := by
  rw [h.hC]
  simp only [List.getElem?_map, List.getElem?_eq_getElem hi, Option.map_some, Option.join_some, Ro.cache]
  cases L[i].ka <;> rfl
theorem iv_len : ∀ x, (iv x).length = 1 := fun _ => rfl
theorem iv_one : ∀ x, ∀ u ∈ iv x, u.oneCell' = true := by
  intro x u hu
  obtain rfl : u = .int .i64 x := by simpa using hu
  rfl
set_option maxRecDepth 100000 in
set_option maxHeartbeats 1000000 in
theorem rdirty_calls (w : World) (r : Rl) (D : Dk) (h : RefAt w r D) : Calls Tryz.prog 27 #[.pointer (some ⟨r.b, 0, none⟩)] w fun e w' =>
    ∃ a c, e = .returned (.slice a (dirtyI D.C).length c) ∧ VOwn iv 1 3 w.heap.size w' a (dirtyI D.C) c ∧ Below w.heap.size w w' := by
  obtain ⟨L, c, sa, sc, h⟩ := h
  have HLN := Lib.hid h.len
  have hfew : L.length ≤ 1024 := by rw [h.len]; exact h.ok.few
  have HC : Hid (D.C.length = L.length) := by rw [Hid, h.hC, List.length_map]
  have HH := Lib.hid h
  have hns := nilSl
  clear h
  go_enter Tryz.func27, Tryz.ntmps27
  go_wp2_with fail
  go_loopw [3, 4] (fun o i wr => ∃ (k : Nat) (a : Option Addr) (c2 : Nat), k ≤ L.length ∧ i = .int .i64 (k : Int) ∧ o = .slice a ((dirtyP D.C k).map Int.ofNat).length c2 ∧ Hid (VOwn iv 1 3 w.heap.size wr a ((dirtyP D.C k).map Int.ofNat) c2 ∧ Below w.heap.size w wr)) (fun _ i _ => L.length - (intOf i).toNat)
  case atStart => exact ⟨0, none, 0, Nat.zero_le _, rfl, rfl, VOwn.nil_ _ _ _ _ _, Below.refl _ _⟩
  case round =>
    obtain ⟨k, a, c2, hk, rfl, rfl, HR⟩ := hrel
    have HI := Lib.hid (HH.out.stay HR.out.2)
    obtain ⟨c0, _⟩ := HI.out.cells
    by_cases hlt : k < L.length
    · have hx := fun w => ro_index r.lb L.length c k hlt w
      obtain ⟨_, e1⟩ := HI.out.elem k hlt
      have HS := Lib.hid (HH.out.some_ k hlt)
      have HP := Lib.hid (dirtyP_succ D.C k)
      have HPL := Lib.hid (dirtyP_len D.C k)
      generalize L[k].k.length = n1 at e1
      generalize L[k].kc = n2 at e1
      cases hka : L[k].ka with
      | none =>
        have HE : Hid (dirtyP D.C (k + 1) = dirtyP D.C k) := by rw [Hid, HP.out, HS.out, hka]; simp
        rw [hka] at e1
        clear hka HS HP
        go_wp2_with fail
        go_roundw
        case rel => exact ⟨k + 1, a, c2, hlt, by go_num, by rw [HE.out], by rw [Hid, HE.out]; exact HR.out⟩
        case measure => simp [intOf]; omega
      | some ad0 =>
        have HE : Hid ((dirtyP D.C (k + 1)).map Int.ofNat = (dirtyP D.C k).map Int.ofNat ++ [(k : Int)]) := by rw [Hid, HP.out, HS.out, hka]; simp
        rw [hka] at e1
        clear hka HS HP
        obtain ⟨Z, hZ⟩ : ∃ Z, Hid (Z = (dirtyP D.C k).map Int.ofNat) := ⟨_, rfl⟩
        have HZL : Hid (Z.length ≤ 1024) := by rw [Hid, hZ.out, List.length_map]; have := HPL.out; omega
        rw [← hZ.out] at HR HE ⊢
        go_wp2_with ((with_reducible refine wpList_vapp1 (o := ⟨some 26, .call _, _, _, _, _⟩) etZ iv_len iv_one (.tmp 23) (.tmp 25) (by with_unfolding_all rfl) (by with_unfolding_all rfl) HR.out.1 (y := (k : Int)) (by with_unfolding_all rfl) (by have := HZL.out; omega) HR.out.2.size (by with_unfolding_all rfl) (by with_unfolding_all rfl) ?_); intro a3 c3 w3 hO3 hg3 hn3; rw [← HE.out] at hO3 ⊢; have HO3 := Lib.hid hO3; have HG3 := Lib.hid (HR.out.2.trans (HR.out.1.grown hg3 HR.out.2.size)); clear hO3 hg3 hn3)
        go_roundw
        case rel => exact ⟨k + 1, a3, c3, hlt, by go_num, by rw [List.length_map], HO3.out, HG3.out⟩
        case measure => simp [intOf]; omega
    · have HE : Hid ((dirtyP D.C k).map Int.ofNat = dirtyI D.C) := by rw [Hid, show k = D.C.length by have := HC.out; omega, dirtyP_all]; rfl
      rw [HE.out]
      rw [HE.out] at HR
      go_wp2_with fail
      go_ret
      exact ⟨a, c2, rfl, HR.out.1, HR.out.2⟩

theorem RefIn.turn {w w' : World} {r : Rl} {D D' : Dk} {L : List Ro} {c sc sc' : Nat} {sa sa' : Option Addr} (h : RefIn w r D L c sa sc) (hs : Save (· ≠ r.b) w w') (hS : D'.S = D.S) (hC : D'.C = D.C) (hok : D'.Ok)
    (hb : w'.heap[r.b]? = some (.cells (rdCells r D' L.length c sa' sc') 42 (0, 0))) (hr : Row w' sa' D'.stay sc') (ha : r.In w'.heap.size sa') : RefIn w' r D' L c sa' sc' :=
  ⟨hb, h.held.save (fun _ => rfl) hs (Ne.symm h.ne), fun x hx => (h.rows x hx).save hs (fun k _ hk => hk.1), hr, ha, h.ne, h.bB, h.lB, h.nx, fun k hk => Nat.lt_of_lt_of_le (h.xlt k hk) hs.size, by rw [hS]; exact h.hS, by rw [hC]; exact h.hC, hok⟩
set_option maxRecDepth 100000 in
theorem rstart_calls (w : World) (r : Rl) (D : Dk) (h : RefAt w r D) :
    Calls Tryz.prog 23 #[.pointer (some ⟨r.b, 0, none⟩)] w fun e w' => e = .returned (.int .i64 (startE D)) ∧ RefAt w' r (startD D) ∧ Save r.Off w w' := by
  obtain ⟨L, c, sa, sc, h⟩ := h
  obtain ⟨_, c1, _, _, ff⟩ := h.cells
  have HH := Lib.hid h
  clear h
  by_cases hu : D.up = true
  · rw [hu] at c1
    rw [show startE D = 2 by rw [startE, if_pos hu], show startD D = D by rw [startD, ← hu]]
    go_enter Tryz.func23, Tryz.ntmps23
    go_wp2_with fail
    go_ret
    exact ⟨rfl, ⟨L, c, sa, sc, HH.out⟩, Save.refl _ _⟩
  · have hu : D.up = false := by simpa using hu
    rw [hu] at c1
    rw [show startE D = 0 by rw [startE, if_neg (by rw [hu]; simp)]]
    go_enter Tryz.func23, Tryz.ntmps23
    go_wp2_with fail
    go_ret
    exact ⟨rfl, ⟨L, c, sa, sc, HH.out.turn Save.set rfl rfl (HH.out.ok.same rfl rfl HH.out.ok.left HH.out.ok.stay) (setCell_in _ HH.out.box) (HH.out.srow.save Save.set (fun g hg => (HH.out.sin g hg).2.1.1.1)) (HH.out.sin.mono (by simp [World.setCell]))⟩, Save.set.less (fun _ _ hk => hk.1)⟩
set_option maxRecDepth 100000 in
theorem rarm_calls (w : World) (r : Rl) (D : Dk) (h : RefAt w r D) (at_ : Int) (h9 : at_ ≤ 9223372036854775807) (a : Option Addr) (l : List UInt8) (c9 : Nat) (hr : Row w a l c9) (hl : l.length ≤ 100000000) (hin : l ≠ [] → ∀ g, Go.Cit.blk a = some g → g ≠ r.b) :
    Calls Tryz.prog 25 #[.pointer (some ⟨r.b, 0, none⟩), .int .i64 at_, .slice a l.length c9] w fun e w' => e = .returned (.int .i64 (armE D at_)) ∧ RefAt w' r (armD D at_ l) ∧ Save r.Off w w' := by
  obtain ⟨L, c, sa, sc, h⟩ := h
  obtain ⟨_, c1, c2, c3, ff⟩ := h.cells
  have HH := Lib.hid h
  have hlt : r.b < w.heap.size := (Array.getElem?_eq_some_iff.1 h.box).1
  clear h
  by_cases hu : D.up = true
  · rw [hu] at c1
    by_cases hat : at_ < 1
    · rw [show armE D at_ = 2 by rw [armE, if_neg (by rw [hu]; simp), if_pos hat], show armD D at_ l = D by rw [armD, if_pos (.inr hat)]]
      go_enter Tryz.func25, Tryz.ntmps25
      go_wp2_with fail
      go_ret
      exact ⟨rfl, ⟨L, c, sa, sc, HH.out⟩, Save.refl _ _⟩
    · rw [show armE D at_ = 0 by rw [armE, if_neg (by rw [hu]; simp), if_neg hat], show armD D at_ l = { D with left := at_.toNat, stay := l } by rw [armD, if_neg (by rw [hu]; simpa using hat)]]
      obtain ⟨n, rfl⟩ : ∃ n : Nat, at_ = (n : Int) := ⟨at_.toNat, by omega⟩
      rw [Int.toNat_natCast]
      obtain ⟨w1, hw1⟩ : ∃ w1, w1 = w.setCell ⟨r.b, 2, none⟩ (.int .i64 (n : Int)) := ⟨_, rfl⟩
      have hs1 : Save (· ≠ r.b) w w1 := by rw [hw1]; exact Save.set
      have hb1 : w1.heap[r.b]? = some (.cells (rdCells r { D with left := n } L.length c sa sc) 42 (0, 0)) := by rw [hw1]; exact setCell_in _ HH.out.box
      have HI1 : Hid (RefIn w1 r { D with left := n } L c sa sc) := HH.out.turn hs1 rfl rfl (HH.out.ok.same rfl rfl (by show n ≤ _; omega) HH.out.ok.stay) hb1 (HH.out.srow.save hs1 (fun g hg => (HH.out.sin g hg).2.1.1.1)) (HH.out.sin.mono hs1.size)
      have hc := copy_calls w1 a l c9 (hr.save' hs1 hin) (by omega)
      have HS1 := Lib.hid hs1
      have hsz : w.heap.size ≤ w1.heap.size := hs1.size
      clear hs1 hb1 hr
      go_enter Tryz.func25, Tryz.ntmps25
      go_wp2_with fail
      rw [← hw1]
      clear hw1
      refine (hc).mono ?_
      rintro e w3 ⟨a3, c3', rfl, hO, hb⟩
      have H3 := Lib.hid (HI1.out.stay hb)
      have HO := Lib.hid hO
      have HB := Lib.hid hb
      obtain ⟨_, _, d2, d3, ff⟩ := H3.out.cells
      clear hO hb hc
      go_wp2_with fail
      go_ret
      have hin3 : r.In (w3.setCell ⟨r.b, 3, none⟩ (.slice a3 l.length c3')).heap.size a3 := fun g hg => by
        have := (HO.out.blk_ge hg).1
        have h9 := (HO.out.blk_ge hg).2
        have h1 := HH.out.bB
        have h2 := (Array.getElem?_eq_some_iff.1 HH.out.held.blk.choose_spec).1
        exact ⟨by omega, ⟨⟨by omega, by omega⟩, fun hx => by have := HH.out.xlt g hx; omega⟩, by simpa [World.setCell] using h9⟩
      have hs : Save (· ≠ r.b) w3 (w3.setCell ⟨r.b, 3, none⟩ (.slice a3 l.length c3')) := Save.set
      refine ⟨rfl, ⟨L, c, a3, c3', H3.out.turn hs rfl rfl (HH.out.ok.same rfl rfl (by show n ≤ _; omega) (by show l.length ≤ _; omega)) (setCell_in _ H3.out.box) (HO.out.isRow.save hs (fun g hg => (hin3 g hg).2.1.1.1)) hin3⟩, ?_⟩
      exact ((HS1.out.less (fun _ _ hk => hk.1)).trans (Save.of HB.out)).trans (hs.less (fun _ _ hk => hk.1))
  · have hu : D.up = false := by simpa using hu
    rw [hu] at c1
    rw [show armE D at_ = 60 by rw [armE, if_pos hu], show armD D at_ l = D by rw [armD, if_pos (.inl hu)]]
    go_enter Tryz.func25, Tryz.ntmps25
    go_wp2_with fail
    go_ret
    exact ⟨rfl, ⟨L, c, sa, sc, HH.out⟩, Save.refl _ _⟩
end Go.Proofs.YtofagofpeedfcaaGreat

/- The reference's disk: fall, falls, Crash: walked. -/
namespace Go.Proofs.YtofagofpeedfcaaGreat
open Go Go.RowKit Go.Cit

/-- The disk while what is in its cache is gone through: its first k sectors are done. -/
def midD (q : Nat → Bool) (D : Dk) (k : Nat) : Dk := { D with S := spillK q D (dirtyP D.C k).length, C := List.replicate k none ++ D.C.drop k }
theorem midD_zero (q : Nat → Bool) (D : Dk) : midD q D 0 = D := by
  unfold midD
  simp [dirtyP, spillK_zero]
theorem midD_end (q : Nat → Bool) (D : Dk) : midD q D D.C.length = spillD q D := by
  unfold midD spillD
  rw [dirtyP_all, List.drop_length, List.append_nil]
theorem midD_ok (q : Nat → Bool) (D : Dk) (h : D.Ok) (k : Nat) (hk : k ≤ D.C.length) : (midD q D k).Ok := by
  obtain ⟨h1, h2⟩ := spillK_ok q D h (dirtyP D.C k).length
  refine ⟨h2, fun r hr => ?_, ?_, ?_, ?_, h.left, h.stay⟩
  · rcases List.mem_append.1 hr with hr | hr
    · have := List.eq_of_mem_replicate hr; simp at this
    · exact h.cac r (List.mem_of_mem_drop hr)
  · show (List.replicate k none ++ D.C.drop k).length = (spillK q D (dirtyP D.C k).length).length
    rw [h1, List.length_append, List.length_replicate, List.length_drop, ← h.len]; omega
  · show (spillK q D _).length ≤ 1024; rw [h1]; exact h.few
  · show 0 < (spillK q D _).length; rw [h1]; exact h.pos
theorem midC_at (C : CacheV) (k : Nat) (hk : k < C.length) : (List.replicate k none ++ C.drop k)[k]? = some C[k] := by
  rw [List.getElem?_append_right (by simp), List.length_replicate, Nat.sub_self, List.getElem?_drop, Nat.add_zero, List.getElem?_eq_getElem hk]
theorem midC_succ (C : CacheV) (k : Nat) (hk : k < C.length) : (List.replicate (k + 1) none ++ C.drop (k + 1)) = (List.replicate k none ++ C.drop k).set k none := by
  rw [List.set_append_right _ _ (by simp), List.length_replicate, Nat.sub_self, List.drop_eq_getElem_cons hk, List.set_cons_zero, List.replicate_succ', List.append_assoc]; rfl
theorem midD_none (q : Nat → Bool) (D : Dk) (k : Nat) (hk : k < D.C.length) (h : D.C[k] = none) : midD q D (k + 1) = midD q D k := by
  unfold midD
  rw [midC_succ _ _ hk, dirtyP_succ, List.getElem?_eq_getElem hk, h]
  congr 1
  · simp
  · apply List.ext_getElem?
    intro j
    by_cases e : k = j
    · subst e
      rw [List.getElem?_set_self (by simp; omega), midC_at _ _ hk, h]
    · rw [List.getElem?_set_ne e]
theorem midD_some (q : Nat → Bool) (D : Dk) (k : Nat) (hk : k < D.C.length) (x : List UInt8) (h : D.C[k] = some x) : (dirtyP D.C (k + 1)).length = (dirtyP D.C k).length + 1 ∧
    midD q D (k + 1) = { midD q D k with S := if q (dirtyP D.C k).length then (midD q D k).S.set k x else (midD q D k).S, C := (midD q D k).C.set k none } := by
  have h1 : dirtyP D.C (k + 1) = dirtyP D.C k ++ [k] := by rw [dirtyP_succ, List.getElem?_eq_getElem hk, h]; rfl
  have h2 : (dirtyP D.C (k + 1)).length = (dirtyP D.C k).length + 1 := by rw [h1, List.length_append]; rfl
  refine ⟨h2, ?_⟩
  have ht := dirtyP_take D.C (k := k + 1) hk
  have hlt : (dirtyP D.C k).length < (dirtyL D.C).length := by
    have := congrArg List.length ht
    rw [List.length_take, h2] at this
    omega
  have hi : (dirtyL D.C)[(dirtyP D.C k).length] = k := by
    have : ((dirtyL D.C).take (dirtyP D.C (k + 1)).length)[(dirtyP D.C k).length]? = some k := by
      rw [← ht, h1, List.getElem?_append_right (Nat.le_refl _), Nat.sub_self]; rfl
    rw [List.getElem?_take, if_pos (by omega), List.getElem?_eq_getElem hlt] at this
    exact Option.some.inj this
  have hs := spillK_succ q D hlt hi (r := x) (by rw [List.getElem?_eq_getElem hk, h])
  unfold midD
  rw [midC_succ _ _ hk, h2, hs]
theorem ro_set {w : World} {g : Nat} {L : List Ro} {c : Nat} (h : Held cRo 2 44 w g L c) {k : Nat} (hk : k < L.length) : 
    (∀ (l : List UInt8) (a : Option Addr) (n : Nat), Held cRo 2 44 (w.setCell ⟨g, k * 2, none⟩ (.slice a l.length n)) g (L.set k { L[k] with f := l, fa := a, fc := n }) c) ∧
    (∀ (l : List UInt8) (a : Option Addr) (n : Nat), Held cRo 2 44 (w.setCell ⟨g, k * 2 + 1, none⟩ (.slice a l.length n)) g (L.set k { L[k] with k := l, ka := a, kc := n }) c) :=
  ⟨fun l a n => h.set (fun _ => rfl) hk (j := 0) (by decide) (by rfl), fun l a n => h.set (fun _ => rfl) hk (j := 1) (by decide) (by rfl)⟩
/-- A sector's cell is written. -/
theorem RefIn.put {w w' : World} {r : Rl} {D D' : Dk} {L L' : List Ro} {c sc : Nat} {sa : Option Addr} (h : RefIn w r D L c sa sc) (hs : Save (· ≠ r.lb) w w') (hh : Held cRo 2 44 w' r.lb L' c) (hl : L'.length = L.length)
    (hr : ∀ x ∈ L', x.At r w') (hS : D'.S = L'.map (·.f)) (hC : D'.C = L'.map Ro.cache) (hu : D'.up = D.up) (hle : D'.left = D.left) (hst : D'.stay = D.stay) (hok : D'.Ok) : RefIn w' r D' L' c sa sc := by
  refine ⟨?_, hh, hr, ?_, h.sin.mono hs.size, h.ne, h.bB, h.lB, h.nx, fun k hk => Nat.lt_of_lt_of_le (h.xlt k hk) hs.size, hS, hC, hok⟩
  · rw [hs.block _ (Array.getElem?_eq_some_iff.1 h.box).1 h.ne, h.box]
    show some (Obj.cells #[_, _, _, _] _ _) = some (Obj.cells #[_, _, _, _] _ _)
    rw [hl, hu, hle, hst]
  · rw [hst]; exact h.srow.save hs (fun g hg => (h.sin g hg).2.1.1.2)
theorem eqlNil (w : World) (a : Option Addr) (n c : Nat) : (binOp .eql 31 (.slice a n c) (.slice none 0 0)).run Tryz.prog w = .ok (.bool a.isNone) w := Lib.run_eql_slice_nil (P := Tryz.prog) w 31 5 a n c 0 0 Tryz.underlying31
theorem bit_mod (x : UInt8) (k : Nat) : ((wrap64 (x.toNat : Int) / 2 ^ k).tmod 2 == 1) = decide (x.toNat / 2 ^ k % 2 = 1) := by
  have hx := b_lt x
  have e0 : wrap64 (x.toNat : Int) = (x.toNat : Int) := by unfold wrap64; omega
  have e : ((x.toNat : Int) / 2 ^ k) = ((x.toNat / 2 ^ k : Nat) : Int) := by rw [Int.natCast_ediv, Int.natCast_pow]; rfl
  rw [e0, e, Int.tmod_eq_emod_of_nonneg (Int.natCast_nonneg _)]
  generalize x.toNat / 2 ^ k = y
  rw [Bool.eq_iff_iff, beq_iff_eq, decide_eq_true_iff]
  omega
def rf6 (r : Rl) (M c k : Nat) (y : Addr) (n1 n2 : Nat) : Nat → Value
  | 42 => (.pointer (some ⟨r.b, 0, none⟩))
  | 43 => (.pointer (some ⟨r.b, 0, none⟩))
  | 44 => (.pointer (some ⟨r.b, 0, none⟩))
  | 45 => (.slice (some ⟨r.lb, 0, none⟩) M c)
  | 46 => (.int .i64 (k : Int))
  | 47 => (.pointer (some ⟨r.b, 0, none⟩))
  | 48 => (.pointer (some ⟨r.b, 0, none⟩))
  | 49 => (.pointer (some ⟨r.b, 0, none⟩))
  | 50 => (.slice (some ⟨r.lb, 0, none⟩) M c)
  | 51 => (.int .i64 (k : Int))
  | 52 => (.pointer (some ⟨r.lb, k * 2, none⟩))
  | 53 => (.pointer (some ⟨r.lb, k * 2 + 1, none⟩))
  | 54 => (.slice (some y) n1 n2)
  | 55 => (.pointer (some ⟨r.lb, k * 2, none⟩))
  | 56 => (.pointer (some ⟨r.lb, k * 2, none⟩))
  | _ => undef
def rf6o (r : Rl) (_ _ k : Nat) (_ : Addr) (_ _ : Nat) : Nat → Value
  | 0 => (.pointer (some ⟨r.b, 0, none⟩))
  | 5 => (.int .i64 (k : Int))
  | _ => undef
set_option maxRecDepth 100000 in
set_option maxHeartbeats 2000000 in
theorem rfall_calls (w : World) (r : Rl) (D : Dk) (h : RefAt w r D) (a : Option Addr) (l : List UInt8) (c9 : Nat) (hr : Row w a l c9) (ha : l ≠ [] → ∀ g, Go.Cit.blk a = some g → r.Off g) :
    Calls Tryz.prog 51 #[.pointer (some ⟨r.b, 0, none⟩), .slice a l.length c9] w fun e w' => e = .returned (.tuple #[]) ∧ RefAt w' r (fallD l D) ∧ Save r.Off w w' := by
  obtain ⟨L0, c, sa, sc, h⟩ := h
  have HLN : Hid (L0.length = D.C.length) := by rw [Hid, h.len, h.ok.len]
  have hfew : D.C.length ≤ 1024 := by rw [h.ok.len]; exact h.ok.few
  have HH := Lib.hid h
  have HR := Lib.hid hr
  have hen := eqlNil
  clear h hr
  go_enter Tryz.func51, Tryz.ntmps51
  go_wp2_with fail
  go_loopw [4, 5] (fun n i wr => ∃ (k : Nat) (L : List Ro), k ≤ D.C.length ∧ i = .int .i64 (k : Int) ∧ n = .int .i64 ((dirtyP D.C k).length : Int) ∧ Hid (L.length = D.C.length) ∧ Hid (RefIn wr r (midD (bitQ l) D k) L c sa sc ∧ Save r.Off w wr)) (fun _ i _ => D.C.length - (intOf i).toNat)
  case atStart => exact ⟨0, L0, Nat.zero_le _, rfl, rfl, HLN, by rw [Hid, midD_zero]; exact ⟨HH.out, Save.refl _ _⟩⟩
  case round =>
    obtain ⟨k, L, hk, rfl, rfl, HL, HI⟩ := hrel
    obtain ⟨c0, _, _, _, ff⟩ := HI.out.1.cells
    rw [HL.out] at c0
    by_cases hlt : k < D.C.length
    · have hx := fun w => ro_index r.lb D.C.length c k hlt w
      have hkL : k < L.length := by rw [HL.out]; exact hlt
      obtain ⟨e0, e1⟩ := HI.out.1.elem k hkL
      have hca : D.C[k] = (L[k]).cache := by
        have h1 := midC_at D.C k hlt
        have h2 : (midD (bitQ l) D k).C[k]? = some D.C[k] := h1
        rw [HI.out.1.hC, List.getElem?_map, List.getElem?_eq_getElem hkL] at h2
        exact (Option.some.inj h2).symm
      obtain ⟨x, hx0⟩ : ∃ x, Hid (x = L[k]) := ⟨L[k], rfl⟩
      rw [← hx0.out] at e0 e1 hca
      cases hka : x.ka with
      | none =>
        have HE : Hid (midD (bitQ l) D (k + 1) = midD (bitQ l) D k) := midD_none _ _ _ hlt (by rw [hca, Ro.cache, hka]; rfl)
        have HN : Hid ((dirtyP D.C (k + 1)).length = (dirtyP D.C k).length) := by
          rw [Hid, dirtyP_succ, List.getElem?_eq_getElem hlt, hca, Ro.cache, hka]; simp
        rw [hka] at e1
        clear hka hca e0
        go_wp2_with fail
        go_roundw
        case rel => exact ⟨k + 1, L, hlt, by go_num, by rw [HN.out], HL, by rw [Hid, HE.out]; exact HI.out⟩
        case measure => simp [intOf]; omega
      | some y =>
        obtain ⟨HN, HM⟩ := midD_some (bitQ l) D k hlt x.k (by rw [hca, Ro.cache, hka]; rfl)
        have HN := Lib.hid HN
        have HM := Lib.hid HM
        have HPL := dirtyP_len D.C k
        obtain ⟨N, hN⟩ : ∃ N, Hid (N = (dirtyP D.C k).length) := ⟨_, rfl⟩
        rw [← hN.out] at HN HM HPL ⊢
        have HRr := Lib.hid (HR.out.save' HI.out.2 ha)
        have hll := HRr.out.le
        have hlm := HRr.out.top
        unfold maxLen at hlm
        rw [hka] at e1
        have HF64 : Hid (x.f.length = 64) := by rw [Hid, hx0.out]; exact HI.out.1.fl k hkL
        have HK64 : Hid (x.k.length = 64) := by rw [Hid, hx0.out]; exact HI.out.1.kl k hkL (by rw [← hx0.out, hka]; simp)
        have HKA := Lib.hid hka
        clear hka hca
        obtain ⟨b, hb⟩ : ∃ b, Hid (b = bitQ l N) := ⟨_, rfl⟩
        rw [← hb.out] at HM
        -- what it comes to behind both stores
        have HX : Hid (∀ w1 L1, RefIn w1 r { midD (bitQ l) D k with S := if b then (midD (bitQ l) D k).S.set k x.k else (midD (bitQ l) D k).S } L1 c sa sc → Save r.Off w w1 → L1.length = D.C.length →
            ∃ L2, L2.length = D.C.length ∧ RefIn (w1.setCell ⟨r.lb, k * 2 + 1, none⟩ (.slice none 0 0)) r (midD (bitQ l) D (k + 1)) L2 c sa sc ∧ Save r.Off w (w1.setCell ⟨r.lb, k * 2 + 1, none⟩ (.slice none 0 0))) := fun w1 L1 h1 hs1 hl1 => by
          have hk1 : k < L1.length := by rw [hl1]; exact hlt
          refine ⟨L1.set k { L1[k] with k := [], ka := none, kc := 0 }, by rw [List.length_set]; exact hl1, ?_, hs1.trans (Save.set.less (fun _ _ hk => hk.2))⟩
          refine h1.put Save.set ((ro_set h1.held hk1).2 [] none 0) (by rw [List.length_set]) ?_ ?_ ?_ (by rw [HM.out]) (by rw [HM.out]) (by rw [HM.out]) (midD_ok _ _ HH.out.ok _ hlt)
          · intro z hz
            rcases List.mem_or_eq_of_mem_set hz with hz | rfl
            · exact (h1.rows z hz).save (T := (· ≠ r.lb)) Save.set (fun _ _ hk => hk.2)
            · have h2 := (h1.rows L1[k] (List.getElem_mem hk1)).save (T := (· ≠ r.lb)) (Save.set (w := w1) (i := k * 2 + 1) (v := .slice none 0 0)) (fun _ _ hk => hk.2)
              exact ⟨h2.rf, Row.nil_ _, h2.inf, fun g hg => by simp [Go.Cit.blk] at hg⟩
          · rw [HM.out]
            have h2 := h1.hS
            rw [List.map_set]
            show (if b then _ else _) = (L1.map (·.f)).set k L1[k].f
            rw [show L1[k].f = (L1.map (·.f))[k]'(by simpa using hk1) by simp, List.set_getElem_self]
            exact h2
          · rw [HM.out, List.map_set]
            show (midD (bitQ l) D k).C.set k none = (L1.map Ro.cache).set k none
            rw [← h1.hC]
        have E0 : Hid (∀ q : After wr, q.to.cell? ⟨r.b, 0, none⟩ = some (.slice (some ⟨r.lb, 0, none⟩) D.C.length c)) := fun q => After.cell c0 q
        have E1 : Hid (∀ q : After wr, q.to.cell? ⟨r.lb, k * 2 + 1, none⟩ = some (.slice (some y) x.k.length x.kc)) := fun q => After.cell e1 q
        have EX := Lib.hid hx
        obtain ⟨L1, hL1⟩ : ∃ L1, Hid (L1 = L.set k { L[k] with f := x.k, fa := some y, fc := x.kc }) := ⟨L.set k { L[k] with f := x.k, fa := some y, fc := x.kc }, rfl⟩
        have EST : Hid (∀ wx, Cit.Alike wr wx → ∃ w', (Instr.storeAt 31 (.pointer (some ⟨r.lb, k * 2, none⟩)) (.slice (some y) x.k.length x.kc)).run Tryz.prog wx = .ok () w' ∧ Held cRo 2 44 w' r.lb L1 c ∧ Save (· ≠ r.lb) wr w') := fun wx ha => by
          have hI := HI.out.1.stay ha.1
          have h1 := (hI.elem k hkL).1
          refine ⟨_, store_slice (fun w => by kernel_rfl) h1 (hI.held.free _), ?_, (Save.of ha.1).trans Save.set⟩
          rw [hL1.out]
          exact (ro_set hI.held hkL).1 x.k (some y) x.kc
        have HLL : Hid (∀ wz, Held cRo 2 44 wz r.lb L1 c → Save (· ≠ r.lb) wr wz → b = true → RefIn wz r { midD (bitQ l) D k with S := if b then (midD (bitQ l) D k).S.set k x.k else (midD (bitQ l) D k).S } L1 c sa sc) := fun wz hh hs hb1 => by
          refine HI.out.1.put hs hh (by rw [hL1.out, List.length_set]) ?_ ?_ ?_ rfl rfl rfl ?_
          · intro z hz
            rw [hL1.out] at hz
            rcases List.mem_or_eq_of_mem_set hz with hz | rfl
            · exact (HI.out.1.rows z hz).save hs (fun _ _ hk => hk.2)
            · have h2 := (HI.out.1.rows L[k] (List.getElem_mem hkL)).save hs (fun _ _ hk => hk.2)
              have h3 : L[k].k = x.k ∧ L[k].ka = some y ∧ L[k].kc = x.kc := ⟨by rw [hx0.out], by rw [← hx0.out]; exact HKA.out, by rw [hx0.out]⟩
              have h4 := h2.rk
              have h5 := h2.ink
              rw [h3.1, h3.2.1, h3.2.2] at h4
              rw [h3.2.1] at h5
              exact ⟨h4, h2.rk, h5, h2.ink⟩
          · rw [hb1, hL1.out, List.map_set]
            show (midD (bitQ l) D k).S.set k x.k = (L.map (·.f)).set k x.k
            rw [← HI.out.1.hS]
          · rw [hL1.out, List.map_set]
            show (midD (bitQ l) D k).C = (L.map Ro.cache).set k (Ro.cache { L[k] with f := x.k, fa := some y, fc := x.kc })
            rw [show Ro.cache { L[k] with f := x.k, fa := some y, fc := x.kc } = (L.map Ro.cache)[k]'(by simpa using hkL) by simp [Ro.cache], List.set_getElem_self]
            exact HI.out.1.hC
          · rw [hb1]
            have h0 := midD_ok (bitQ l) D HH.out.ok k hk
            refine ⟨fun z hz => ?_, h0.cac, by show _ = ((midD (bitQ l) D k).S.set k x.k).length; rw [List.length_set]; exact h0.len, by show ((midD (bitQ l) D k).S.set k x.k).length ≤ _; rw [List.length_set]; exact h0.few, by show 0 < ((midD (bitQ l) D k).S.set k x.k).length; rw [List.length_set]; exact h0.pos, h0.left, h0.stay⟩
            rcases List.mem_or_eq_of_mem_set hz with hz | rfl
            · exact h0.sec z hz
            · exact HK64.out
        have HL1L : Hid (L1.length = D.C.length) := by rw [Hid, hL1.out, List.length_set]; exact HL.out
        by_cases hb8 : N / 8 < l.length
        · have i0 := HRr.out.index bt.slice bt.sz (N / 8) hb8
          have e2 := HRr.out.cell (N / 8) hb8
          rw [show ((N / 8 : Nat) : Int) = (N : Int) / 8 by omega] at i0
          have HB : Hid (b = decide ((l[N / 8]).toNat / 2 ^ (N % 8) % 2 = 1)) := by rw [Hid, hb.out, bitQ]; simp [List.getD, hb8]
          generalize l[N / 8] = u at e2 HB
          generalize l.length = ll at *
          have HTB : Hid (((wrap64 (u.toNat : Int) / 2 ^ (N % 8)).tmod 2 == 1) = b) := by rw [Hid, HB.out]; exact bit_mod u (N % 8)
          have tB := HTB.out
          clear HB HTB
          generalize x.k.length = n1 at *
          generalize x.kc = n2 at *
          cases b with
          | true =>
            go_upto_region 6 with fail
            clear i0 e2 tB c0 e1 hx
            refine wp_region_once (rf6 r D.C.length c k y n1 n2) (rf6o r D.C.length c k y n1 n2) [0, 5] 15 (fun wx => Held cRo 2 44 wx r.lb L1 c ∧ Save (· ≠ r.lb) wr wx) (by kernel_rfl) (by kernel_rfl) (by decide) ⟨rfl, rfl, trivial⟩ ?_ ?_
            · refine opsAll_cons ?_ (opsAll_cons ?_ (opsAll_cons ?_ (opsAll_cons ?_ (opsAll_cons ?_ (opsAll_cons ?_ (opsAll_cons ?_ (opsAll_cons ?_ (opsAll_cons ?_ (opsAll_cons ?_ (opsAll_cons ?_ (opsAll_cons ?_ (opsAll_cons ?_ (opsAll_cons ?_ (opsAll_cons ?_ (opsAll_cons ?_ opsAll_nil)))))))))))))))
              all_goals intro a hk
              · exact ⟨wanted_free rfl, .inr ⟨by decide, fun wx hst => gp_move (.tmp 0) rfl ⟨rfl, (show a.eval (.tmp 0) = (.pointer (some ⟨r.b, 0, none⟩)) from hk.old 0 (by kernel_rfl))⟩⟩⟩
              · exact ⟨wanted_free rfl, .inr ⟨by decide, fun wx hst => gp_nil (.tmp 42) rfl (show a.eval (.tmp 42) = (.pointer (some ⟨r.b, 0, none⟩)) from hk.slot 42 (by kernel_rfl)) ⟨rfl, rfl⟩⟩⟩
              · exact ⟨wanted_free rfl, .inr ⟨by decide, fun wx hst => gp_field (.tmp 43) rfl (show a.eval (.tmp 43) = (.pointer (some ⟨r.b, 0, none⟩)) from hk.slot 43 (by kernel_rfl)) (v := (.pointer (some ⟨r.b, 0, none⟩))) (fun w => by kernel_rfl) ⟨rfl, rfl⟩⟩⟩
              · exact ⟨wanted_free rfl, .inr ⟨by decide, fun wx hst => gp_load (.tmp 44) rfl (show a.eval (.tmp 44) = (.pointer (some ⟨r.b, 0, none⟩)) from hk.slot 44 (by kernel_rfl)) (v := (.slice (some ⟨r.lb, 0, none⟩) D.C.length c)) ((fun (q : After _) => load_at (fun w => by kernel_rfl) (E0.out q)) ⟨wx, (hst (by kernel_rfl)).1⟩) ⟨rfl, rfl⟩⟩⟩
              · exact ⟨wanted_free rfl, .inr ⟨by decide, fun wx hst => gp_move (.tmp 5) rfl ⟨rfl, (show a.eval (.tmp 5) = (.int .i64 (k : Int)) from hk.old 5 (by kernel_rfl))⟩⟩⟩
              · exact ⟨wanted_free rfl, .inr ⟨by decide, fun wx hst => gp_move (.tmp 0) rfl ⟨rfl, (show a.eval (.tmp 0) = (.pointer (some ⟨r.b, 0, none⟩)) from hk.old 0 (by kernel_rfl))⟩⟩⟩
              · exact ⟨wanted_free rfl, .inr ⟨by decide, fun wx hst => gp_nil (.tmp 47) rfl (show a.eval (.tmp 47) = (.pointer (some ⟨r.b, 0, none⟩)) from hk.slot 47 (by kernel_rfl)) ⟨rfl, rfl⟩⟩⟩
              · exact ⟨wanted_free rfl, .inr ⟨by decide, fun wx hst => gp_field (.tmp 48) rfl (show a.eval (.tmp 48) = (.pointer (some ⟨r.b, 0, none⟩)) from hk.slot 48 (by kernel_rfl)) (v := (.pointer (some ⟨r.b, 0, none⟩))) (fun w => by kernel_rfl) ⟨rfl, rfl⟩⟩⟩
              · exact ⟨wanted_free rfl, .inr ⟨by decide, fun wx hst => gp_load (.tmp 49) rfl (show a.eval (.tmp 49) = (.pointer (some ⟨r.b, 0, none⟩)) from hk.slot 49 (by kernel_rfl)) (v := (.slice (some ⟨r.lb, 0, none⟩) D.C.length c)) ((fun (q : After _) => load_at (fun w => by kernel_rfl) (E0.out q)) ⟨wx, (hst (by kernel_rfl)).1⟩) ⟨rfl, rfl⟩⟩⟩
              · exact ⟨wanted_free rfl, .inr ⟨by decide, fun wx hst => gp_move (.tmp 5) rfl ⟨rfl, (show a.eval (.tmp 5) = (.int .i64 (k : Int)) from hk.old 5 (by kernel_rfl))⟩⟩⟩
              · exact ⟨wanted_free rfl, .inr ⟨by decide, fun wx hst => gp_index (.tmp 50) (.tmp 51) rfl (show a.eval (.tmp 50) = (.slice (some ⟨r.lb, 0, none⟩) D.C.length c) from hk.slot 50 (by kernel_rfl)) (show a.eval (.tmp 51) = (.int .i64 (k : Int)) from hk.slot 51 (by kernel_rfl)) (v := (.pointer (some ⟨r.lb, k * 2, none⟩))) (EX.out wx) ⟨rfl, rfl⟩⟩⟩
              · exact ⟨wanted_free rfl, .inr ⟨by decide, fun wx hst => gp_field (.tmp 52) rfl (show a.eval (.tmp 52) = (.pointer (some ⟨r.lb, k * 2, none⟩)) from hk.slot 52 (by kernel_rfl)) (v := (.pointer (some ⟨r.lb, k * 2 + 1, none⟩))) (fun w => by kernel_rfl) ⟨rfl, rfl⟩⟩⟩
              · exact ⟨wanted_free rfl, .inr ⟨by decide, fun wx hst => gp_load (.tmp 53) rfl (show a.eval (.tmp 53) = (.pointer (some ⟨r.lb, k * 2 + 1, none⟩)) from hk.slot 53 (by kernel_rfl)) (v := (.slice (some y) n1 n2)) ((fun (q : After _) => load_at (fun w => by kernel_rfl) (E1.out q)) ⟨wx, (hst (by kernel_rfl)).1⟩) ⟨rfl, rfl⟩⟩⟩
              · exact ⟨wanted_free rfl, .inr ⟨by decide, fun wx hst => gp_index (.tmp 45) (.tmp 46) rfl (show a.eval (.tmp 45) = (.slice (some ⟨r.lb, 0, none⟩) D.C.length c) from hk.slot 45 (by kernel_rfl)) (show a.eval (.tmp 46) = (.int .i64 (k : Int)) from hk.slot 46 (by kernel_rfl)) (v := (.pointer (some ⟨r.lb, k * 2, none⟩))) (EX.out wx) ⟨rfl, rfl⟩⟩⟩
              · exact ⟨wanted_free rfl, .inr ⟨by decide, fun wx hst => gp_field (.tmp 55) rfl (show a.eval (.tmp 55) = (.pointer (some ⟨r.lb, k * 2, none⟩)) from hk.slot 55 (by kernel_rfl)) (v := (.pointer (some ⟨r.lb, k * 2, none⟩))) (fun w => by kernel_rfl) ⟨rfl, rfl⟩⟩⟩
              · refine ⟨wanted_free rfl, .inl ⟨rfl, fun wx hst => ?_⟩⟩
                refine gp_store (.tmp 56) (.tmp 54) rfl (show a.eval (.tmp 56) = (.pointer (some ⟨r.lb, k * 2, none⟩)) from hk.slot 56 (by kernel_rfl)) (show a.eval (.tmp 54) = (.slice (some y) n1 n2) from hk.slot 54 (by kernel_rfl)) (EST.out wx hst).choose_spec.1 ⟨(EST.out wx hst).choose_spec.2, trivial⟩
            intro a wz hfin hsame hall
            have he := act_same hsame [42, 43, 44, 45, 46, 47, 48, 49, 50, 51, 52, 53, 54, 55, 56] (by kernel_rfl)
            simp only [List.foldl_cons, List.foldl_nil] at he
            generalize a.eval (.tmp 42) = y42 at he
            generalize a.eval (.tmp 43) = y43 at he
            generalize a.eval (.tmp 44) = y44 at he
            generalize a.eval (.tmp 45) = y45 at he
            generalize a.eval (.tmp 46) = y46 at he
            generalize a.eval (.tmp 47) = y47 at he
            generalize a.eval (.tmp 48) = y48 at he
            generalize a.eval (.tmp 49) = y49 at he
            generalize a.eval (.tmp 50) = y50 at he
            generalize a.eval (.tmp 51) = y51 at he
            generalize a.eval (.tmp 52) = y52 at he
            generalize a.eval (.tmp 53) = y53 at he
            generalize a.eval (.tmp 54) = y54 at he
            generalize a.eval (.tmp 55) = y55 at he
            generalize a.eval (.tmp 56) = y56 at he
            simp only [put_lit] at he
            dsimp only [List.set_cons_zero, List.set_cons_succ] at he
            subst he
            clear hsame hall
            obtain ⟨hfh, hfs⟩ := hfin
            have HZ := Lib.hid (HLL.out wz hfh hfs rfl)
            have HZS := Lib.hid (HI.out.2.trans (hfs.less (fun _ _ hk => hk.2)))
            have hx := EX.out
            obtain ⟨c0, _⟩ := HZ.out.cells
            rw [HL1L.out] at c0
            have e1 := (HZ.out.elem k (by rw [HL1L.out]; exact hlt)).2
            have ff2 := fun j => HZ.out.held.free j
            generalize (L1[k]'(by rw [HL1L.out]; exact hlt)) = z at e1
            generalize Value.slice z.ka z.k.length z.kc = zz at e1
            clear hfh hfs
            go_wp2_with fail
            obtain ⟨L2, hl2, hr2, hs2⟩ := HX.out wz L1 HZ.out HZS.out HL1L.out
            go_roundw
            case rel => exact ⟨k + 1, L2, hlt, by go_num, by rw [HN.out]; go_num, hl2, hr2, hs2⟩
            case measure => simp [intOf]; omega
          | false =>
            have ff2 := fun j => HI.out.1.held.free j
            go_wp2_with fail
            obtain ⟨L2, hl2, hr2, hs2⟩ := HX.out wr L HI.out.1 HI.out.2 HL.out
            go_roundw
            case rel => exact ⟨k + 1, L2, hlt, by go_num, by rw [HN.out]; go_num, hl2, hr2, hs2⟩
            case measure => simp [intOf]; omega
        · have HB : Hid (b = false) := by rw [Hid, hb.out, bitQ]; simp [List.getD, hb8]
          have hb0 := HB.out
          subst hb0
          generalize l.length = ll at *
          have ff2 := fun j => HI.out.1.held.free j
          go_wp2_with fail
          obtain ⟨L2, hl2, hr2, hs2⟩ := HX.out wr L HI.out.1 HI.out.2 HL.out
          go_roundw
          case rel => exact ⟨k + 1, L2, hlt, by go_num, by rw [HN.out]; go_num, hl2, hr2, hs2⟩
          case measure => simp [intOf]; omega
    · have HE : Hid (midD (bitQ l) D k = spillD (bitQ l) D) := by rw [Hid, show k = D.C.length by omega, midD_end]
      rw [HE.out] at HI
      obtain ⟨_, d1, d2, d3, _⟩ := HI.out.1.cells
      go_wp2_with fail
      go_end0
      have hs3 : Save (· ≠ r.b) wr (((wr.setCell ⟨r.b, 1, none⟩ (.bool true)).setCell ⟨r.b, 2, none⟩ (.int .i64 0)).setCell ⟨r.b, 3, none⟩ (.slice none 0 0)) := (Save.set.trans Save.set).trans Save.set
      refine ⟨rfl, ⟨L, c, none, 0, HI.out.1.turn hs3 rfl rfl (fallD_ok l D HH.out.ok) (setCell_in _ (setCell_in _ (setCell_in _ HI.out.1.box))) (Row.nil_ _) (fun g hg => by simp [Go.Cit.blk] at hg)⟩, HI.out.2.trans (hs3.less (fun _ _ hk => hk.1))⟩
end Go.Proofs.YtofagofpeedfcaaGreat

