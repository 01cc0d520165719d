/- disk.New, disk.Disk's Read, Flushed: walked. -/
import Derived.Test.YtofagofpeedfcaaGreatDisk2
import Derived.Test.YtofagofpeedfcaaGreatGd
import Derived.Test.YtofagofpeedfcaaGreatGc
namespace Go.Proofs.YtofagofpeedfcaaGreat
open Go Go.RowKit Go.Cit

def newD (n : Nat) : Dk := ⟨true, List.replicate n (List.replicate 64 0), List.replicate n none, 0, []⟩
theorem newD_ok (n : Nat) (h0 : 0 < n) (h1 : n ≤ 1024) : (newD n).Ok := by
  refine ⟨fun r hr => ?_, fun r hr => ?_, by simp [newD], by simpa [newD] using h1, by simpa [newD] using h0, by simp [newD], by simp [newD]⟩
  · rw [List.eq_of_mem_replicate hr]; simp
  · have := List.eq_of_mem_replicate hr; simp at this
def zSec : Value := .agg (List.replicate 64 (vb 0)).toArray
theorem etS : ElemType Tryz.prog 36 91 64 64 zSec := ⟨Tryz.underlying36, by kernel_rfl, fun w => by kernel_rfl, rfl, by decide, by decide⟩
theorem secCells_new (n : Nat) : (madeCells zSec.cells (n * 64)).toList = (List.replicate n (List.replicate 64 (0 : UInt8))).flatMap (List.map vb) := by
  have h1 : ∀ i, (zSec.cells)[i % zSec.cells.size]! = vb 0 := by
    intro i
    have hs : zSec.cells.size = 64 := rfl
    have : i % 64 < 64 := Nat.mod_lt _ (by decide)
    rw [hs]
    show (List.replicate 64 (vb 0)).toArray[i % 64]! = vb 0
    generalize hL : List.replicate 64 (vb 0) = L
    have hlen : L.length = 64 := by rw [← hL]; rfl
    rw [getElem!_pos _ _ (by simp [hlen, this])]
    have hm : L[i % 64]'(by omega) ∈ List.replicate 64 (vb 0) := by rw [hL]; exact List.getElem_mem _
    simpa using List.eq_of_mem_replicate hm
  have h2 : (madeCells zSec.cells (n * 64)).toList = List.replicate (n * 64) (vb 0) := by
    unfold madeCells
    rw [Array.toList_map]
    simp only [h1]
    rw [List.map_const']
    simp
  rw [h2]
  clear h1 h2
  induction n with
  | zero => rfl
  | succ n ih =>
    rw [List.replicate_succ, List.flatMap_cons, ← ih, List.map_replicate, Nat.succ_mul, Nat.add_comm, ← List.replicate_append_replicate]
theorem flat64 {β : Type} {f : UInt8 → β} : ∀ S : List (List UInt8), (∀ r ∈ S, r.length = 64) → (S.flatMap (List.map f)).length = S.length * 64
  | [], _ => rfl
  | r :: S, h => by
    rw [List.flatMap_cons, List.length_append, flat64 S (fun x hx => h x (List.mem_cons_of_mem _ hx)), List.length_map, h r (List.mem_cons_self ..), List.length_cons, Nat.succ_mul]; omega
theorem flatGet64 {β : Type} {f : UInt8 → β} : ∀ (S : List (List UInt8)), (∀ r ∈ S, r.length = 64) → ∀ (i j : Nat) (h : i < S.length), j < 64 → (S.flatMap (List.map f))[i * 64 + j]? = (S[i].map f)[j]?
  | [], _, i, j, h, _ => by simp at h
  | x :: S, hS, 0, j, _, hj => by
    rw [List.flatMap_cons, List.getElem?_append_left (by rw [List.length_map, hS x (List.mem_cons_self ..)]; omega)]
    simp
  | x :: S, hS, i + 1, j, h, hj => by
    have e : (i + 1) * 64 + j - 64 = i * 64 + j := by omega
    have hx : (x.map f).length = 64 := by rw [List.length_map, hS x (List.mem_cons_self ..)]
    rw [List.flatMap_cons, List.getElem?_append_right (by rw [hx]; omega), hx, e]
    exact flatGet64 S (fun r hr => hS r (List.mem_cons_of_mem _ hr)) i j (by simpa using h) hj
theorem sec_index (sb n i c : Nat) (hi : i < n) (w : World) : (Instr.indexAt 36 (.slice (some ⟨sb, 0, none⟩) n c) (.int .i64 (i : Int))).run Tryz.prog w = .ok (.pointer (some ⟨sb, i * 64, none⟩)) w := by
  have hT := etS.slice
  have he : Tryz.prog.elem 36 = 91 := by simp [Program.elem, hT]
  rw [run_indexAt_slice w _ _ _ _ _ _ (by rw [he]; exact hT), if_pos (by omega), he, etS.sz]
  simp only [Result.andThen, Addr.add]
  by_cases h0 : i * 64 = 0
  · simp [h0]
  · simp [h0]
theorem sec_load {w : World} {sb : Nat} {S : List (List UInt8)} {E : TypeId} {fr : Nat × Nat} (h : w.heap[sb]? = some (.cells (secCells S) E fr)) (hS : ∀ r ∈ S, r.length = 64) (i : Nat) (hi : i < S.length) :
    (loadVar 91 ⟨sb, i * 64, none⟩).run Tryz.prog w = .ok (.agg (S[i].map vb).toArray) w := by
  have hr := hS S[i] (List.getElem_mem hi)
  exact run_loadVar_mid (P := Tryz.prog) w sb (i * 64) 91 (S[i].map vb) _ (fun j v hv => by
    have hj : j < 64 := by rw [← hr]; simpa using (List.getElem?_eq_some_iff.1 hv).1
    rw [World.cell?, h]
    simp only [List.getElem?_toArray]
    rw [flatGet64 S hS i j hi hj, hv]
    rfl) Tryz.underlying91 rfl (by rw [List.length_map, hr]; kernel_rfl)
theorem wpList_load_run {P : Program} {ops : Array Oper} {rest : List Oper} {o : Oper} {act : Act} {w : World} {Q : Exit → Act → World → Prop} {T : TypeId} {q : Addr} {v : Value} (x : Operand) (hgd : o.guard = none) (ho : o.op = .load T x) (hx : act.eval x = .pointer (some q)) (hr : (loadVar T q).run P w = .ok v w)
    (h : wpList P ops Q rest (act.put o.dst v) w) : wpList P ops Q (o :: rest) act w := by
  refine wpList_value (w' := w) (v := v) hgd ?_ h
  unfold execOp
  simp only [ho, hx, Sem.run_bind, Instr.loadAt, Instr.sureAddr, Sem.run_pure, Result.andThen, hr]
theorem rowS : RowType Tryz.prog 91 64 := ⟨⟨_, Tryz.underlying91, rfl⟩, by kernel_rfl⟩
theorem szU8 : ∀ w, (sizeOf 5).run Tryz.prog w = .ok 1 w := by intro w; kernel_rfl
theorem sec_all (g off : Nat) (w : World) : (Instr.sliceAt 91 (.pointer (some ⟨g, off, none⟩)) none none none).run Tryz.prog w = .ok (.slice (some ⟨g, off, none⟩) 64 64) w := by
  have hT : Tryz.prog.underlying 91 = some (.array 64 5) := Tryz.underlying91
  have he : Tryz.prog.elem 91 = 5 := by simp [Program.elem, hT]
  have hl : Tryz.prog.arrayLen 91 = 64 := by simp [Program.arrayLen, hT]
  rw [run_sliceAt_array_all _ _ _ (by rw [he, hl]; exact hT), he, szU8, hl]
  simp [Result.andThen, slicedAt, Addr.add]
theorem own_all {E n : Nat} {w : World} {B g c : Nat} {L : List Value} (h : w.ownsRow B E n (.slice (some ⟨g, 0, none⟩) c c) c L) (_hl : L.length = c * n) : w.heap[g]? = some (.cells L.toArray E (0, 0)) := by
  rcases h.2 with ⟨hv, _⟩ | ⟨g', c', cur, hv, hb, hg, hle, hm, hs, ht⟩
  · simp at hv
  · injection hv with h1 h2 h3
    injection h1 with h1
    injection h1 with h1
    subst h1 h3
    rw [hg]
    have : cur = L.toArray := by
      apply Array.toList_inj.1
      rw [← ht, List.take_of_length_le]
      simp [hs]
    rw [this]

set_option maxRecDepth 100000 in
theorem new_calls (w : World) (n : Nat) (h0 : 0 < n) (h1 : n ≤ 1024) : Calls Tryz.prog 5 #[.int .i64 (n : Int)] w fun e w' =>
    ∃ p : Pl, e = .returned (.tuple #[.pointer (some ⟨p.b, 0, none⟩), .int .i64 0]) ∧ DiskAt w' p (newD n) ∧ w'.cell? ⟨p.b, 4, none⟩ = some (.slice none 0 0) ∧ (w.heap.size ≤ p.b ∧ w.heap.size ≤ p.sb ∧ w.heap.size ≤ p.mb) ∧ Below w.heap.size w w' := by
  obtain ⟨i, hi, hz0, hz1, hz2⟩ := info_parts etS.info
  have mm : ∀ w : World, (Instr.makeMap 37 none).run Tryz.prog w = .ok (.map (some w.heap.size)) (w.alloc (.map #[] 0)) := fun w => by kernel_rfl
  go_enter Tryz.func5, Tryz.ntmps5
  go_wp2_with ((with_reducible refine wpList_make_full (o := ⟨some 11, .makeSlice _ _ _, _, _, _, _⟩) w (by with_unfolding_all rfl) (.tmp 10) (.tmp 10) 36 (by with_unfolding_all rfl) w.heap.size 91 i zSec 64 etS.slice hi hz0 hz1 .i64 .i64 n n n (by with_unfolding_all rfl) (by with_unfolding_all rfl) rfl rfl (by rw [hz2]; omega) (by unfold maxLen; omega) (Nat.le_refl _) ?_); intro w1 hO hg)
  go_ret2
  have hs0 : w.heap.size < w1.heap.size := by
    rcases hO.2 with ⟨hv, _⟩ | ⟨g', c', cur, hv, hb, hg', _⟩
    · simp at hv
    · injection hv with e1
      injection e1 with e1
      injection e1 with e1
      subst e1
      exact (Array.getElem?_eq_some_iff.1 hg').1
  have hsec := own_all hO (by rw [secCells_new]; exact (flat64 (newD n).S (newD_ok n h0 h1).sec).trans (by simp [newD]))
  rw [secCells_new] at hsec
  have b1 := World.grownBy_alloc w1 (.map #[] 0) none
  have e2 : (w1.alloc (Obj.map #[] 0)).heap.size = w1.heap.size + 1 := by simp
  refine ⟨⟨w1.heap.size + 1, w.heap.size, w1.heap.size, fun _ => False⟩, rfl, ⟨⟨none, 0, ?_, Row.nil_ _, fun g hg => by simp [Go.Cit.blk] at hg⟩, ?_, ?_, by simp; omega, by simp, by simp; omega, fun _ h => h.elim, newD_ok n h0 h1⟩, by rw [← e2, World.cell?, heap_alloc_new]; rfl, ⟨by simp; omega, by simp, by simp; omega⟩, ?_⟩
  · show _ = some (Obj.cells #[.bool true, .slice (some ⟨w.heap.size, 0, none⟩) (newD n).S.length (newD n).S.length, .map (some w1.heap.size), .int .i64 ((0 : Nat) : Int), .slice none 0 0] _ _)
    rw [← e2, heap_alloc_new]
    simp [newD]
  · rw [Below.heap_alloc _ _ _ (by rw [e2]; show w.heap.size < _; omega), Below.heap_alloc _ _ _ hs0]
    exact hsec
  · show CM _ w1.heap.size (List.replicate n none)
    exact (CM.new w1 n).stay ((Below.refl _ _).alloc (Nat.le_refl _) _)
  · have hb1 : Below w.heap.size w w1 := grown_below hg (Nat.le_refl _) (fun k hk => by simp at hk)
    exact (hb1.alloc (by omega) _).alloc (by rw [e2]; omega) _

/-- What a sector has. -/
def getR (D : Dk) (i : Nat) : List UInt8 := (D.C[i]?.join).getD (D.S[i]?.getD [])
def readE (D : Dk) (i : Int) : Int := if D.up = false then 60 else if 0 ≤ i ∧ i < D.S.length then 0 else 61
def readR (D : Dk) (i : Int) : List UInt8 := if D.up = true ∧ 0 ≤ i ∧ i < D.S.length then getR D i.toNat else []
theorem Dk.Ok.get {D : Dk} (h : D.Ok) {i : Nat} (hi : i < D.S.length) : (getR D i).length = 64 := by
  unfold getR
  cases hc : D.C[i]?.join with
  | some r =>
    obtain ⟨x, hx, rfl⟩ : ∃ x, D.C[i]? = some x ∧ x = some r := by
      cases hx : D.C[i]? with
      | none => rw [hx] at hc; simp at hc
      | some x => rw [hx] at hc; exact ⟨x, rfl, by simpa using hc⟩
    exact h.cac r (List.mem_of_getElem? hx)
  | none => simp [hi, h.sec]
theorem zeroS (w : World) : (zeroValue 91).run Tryz.prog w = .ok zSec w := by kernel_rfl

theorem mine_blk {w : World} {g B : Nat} {l : List UInt8} {T : TypeId} {cs : Array Value} (h : w.heap[g]? = some (.cells cs T (0, 0))) (hc : cs = (l.map vb).toArray) (hl : l.length ≤ 1000000000) (hB : B ≤ g) : Mine B w (some ⟨g, 0, none⟩) l l.length := by
  refine ⟨row_blk l h hc hl, fun g' hg => by simp [Go.Cit.blk] at hg; omega, fun i hi => ?_⟩
  simp only [ad, Nat.zero_add]
  rw [World.frozen?, h]; simp
theorem alloc_sec (ρ : Operand → Value) (d : Option Tmp) (ty : TypeId) (ps : String) {af} (w : World) :
    (execOp ρ { dst := d, op := Op.alloc 91, type := ty, pos := ps, after := af, guard := none }).run Tryz.prog w = .ok (.value (.pointer (some ⟨w.heap.size, 0, none⟩))) (w.alloc (.cells ((List.replicate 64 (0 : UInt8)).map vb).toArray 91)) := by
  kernel_rfl
theorem all_vb (l : List UInt8) : (l.map vb).toArray.all (·.oneCell') = true := by simp [Value.oneCell']
set_option maxRecDepth 100000 in
set_option maxHeartbeats 1000000 in
theorem read_hit (w : World) (p : Pl) (D : Dk) (h : DiskAt w p D) (k : Nat) (hk : k < D.S.length) (hu : D.up = true) (r : List UInt8) (hc : D.C[k]? = some (some r)) : Calls Tryz.prog 29 #[.pointer (some ⟨p.b, 0, none⟩), .int .i64 (k : Int)] w fun e w' =>
    ∃ a, e = .returned (.tuple #[.slice a 64 64, .int .i64 0]) ∧ Mine w.heap.size w' a r 64 ∧ Below w.heap.size w w' := by
  obtain ⟨c0, c1, c2, _⟩ := h.cells
  have hr := ready_calls w p D h
  have hh := dhas_calls w p D h k
  rw [hu] at hr
  have hrl : r.length = 64 := h.ok.cac r (List.mem_of_getElem? hc)
  have hh' : decide (0 ≤ (k : Int) ∧ (k : Int) < D.S.length) = true := by simp [hk]
  rw [hh'] at hh
  have hL := run_cm_hit (P := Tryz.prog) (w := w) Tryz.underlying37 Tryz.underlying3 h.map hc true
  rw [if_pos rfl] at hL
  have HA := Lib.hid @alloc_sec
  obtain ⟨X, hX⟩ : ∃ X, Hid (X = ((List.replicate 64 (0 : UInt8)).map vb).toArray) := ⟨_, rfl⟩
  rw [← hX.out] at HA
  have HX : Hid (X.size = 64) := by rw [Hid, hX.out]; simp
  obtain ⟨A, hA⟩ : ∃ A, Hid (A = (r.map vb).toArray) := ⟨_, rfl⟩
  rw [← hA.out] at hL
  have HAs : Hid (A.size = 64) := by rw [Hid, hA.out]; simpa using hrl
  have HAo : Hid (A.all (·.oneCell') = true) := by rw [Hid, hA.out]; exact all_vb _
  have HN : Hid ((w.alloc (.cells X 91)).heap[w.heap.size]? = some (.cells X 91 (0, 0))) := heap_alloc_new _ _
  have sa := sec_all w.heap.size 0
  clear h hc hh'
  go_enter Tryz.func29, Tryz.ntmps29
  go_wp2_with fail
  refine (hr).mono ?_
  rintro e w2 ⟨rfl, rfl⟩
  go_wp2_with fail
  refine (hh).mono ?_
  rintro e w2 ⟨rfl, rfl⟩
  go_wp2_with (first
    | ((with_reducible refine wpList_value (o := ⟨some 7, .alloc _, _, _, _, _⟩) (by with_unfolding_all rfl) (HA.out _ _ _ _ _) ?_))
    | ((with_reducible refine wpList_storeB (o := ⟨none, .store _ (.tmp 7) (.tmp 25), _, _, _, _⟩) rowS (.tmp 7) (.tmp 25) (by with_unfolding_all rfl) (by with_unfolding_all rfl) (by with_unfolding_all rfl) (by with_unfolding_all rfl) (by with_unfolding_all rfl) HN.out HX.out HAs.out HAo.out ?_); intro w3 hb3 hS3; have HB3 := Lib.hid hb3; have HS3 := Lib.hid hS3; clear hb3 hS3))
  go_ret2
  have B3 : Below w2.heap.size w2 w3 := ((Below.refl _ w2).alloc (Nat.le_refl _) (.cells X 91)).trans (HS3.out.below (by simp) (fun j hj => by omega))
  refine ⟨_, rfl, ?_, B3⟩
  have := mine_blk (B := w2.heap.size) HB3.out hA.out (by omega) (Nat.le_refl _)
  rwa [hrl] at this
set_option maxRecDepth 100000 in
set_option maxHeartbeats 1000000 in
theorem read_miss (w : World) (p : Pl) (D : Dk) (h : DiskAt w p D) (k : Nat) (hk : k < D.S.length) (hu : D.up = true) (hc : ∀ r, D.C[k]? ≠ some (some r)) : Calls Tryz.prog 29 #[.pointer (some ⟨p.b, 0, none⟩), .int .i64 (k : Int)] w fun e w' =>
    ∃ a, e = .returned (.tuple #[.slice a 64 64, .int .i64 0]) ∧ Mine w.heap.size w' a D.S[k] 64 ∧ Below w.heap.size w w' := by
  obtain ⟨c0, c1, c2, _⟩ := h.cells
  have hr := ready_calls w p D h
  have hh := dhas_calls w p D h k
  rw [hu] at hr
  have hrl : D.S[k].length = 64 := h.ok.sec _ (List.getElem_mem hk)
  have hh' : decide (0 ≤ (k : Int) ∧ (k : Int) < D.S.length) = true := by simp [hk]
  rw [hh'] at hh
  have hL := run_cm_miss (P := Tryz.prog) (w := w) Tryz.underlying37 Tryz.underlying3 (zeroS w) h.map hc true
  rw [if_pos rfl] at hL
  have HA := Lib.hid @alloc_sec
  obtain ⟨X, hX⟩ : ∃ X, Hid (X = ((List.replicate 64 (0 : UInt8)).map vb).toArray) := ⟨_, rfl⟩
  rw [← hX.out] at HA
  have HX : Hid (X.size = 64) := by rw [Hid, hX.out]; simp
  obtain ⟨A, hA⟩ : ∃ A, Hid (A = (D.S[k].map vb).toArray) := ⟨(D.S[k].map vb).toArray, rfl⟩
  have HAs : Hid (A.size = 64) := by rw [Hid, hA.out]; simpa using hrl
  have HAo : Hid (A.all (·.oneCell') = true) := by rw [Hid, hA.out]; exact all_vb _
  obtain ⟨Z, hZ⟩ : ∃ Z, Hid (Z = (List.replicate 64 (vb 0)).toArray) := ⟨_, rfl⟩
  have HZs : Hid (Z.size = 64) := by rw [Hid, hZ.out]; simp
  have HZo : Hid (Z.all (·.oneCell') = true) := by rw [Hid, hZ.out]; have := all_vb (List.replicate 64 0); rwa [List.map_replicate] at this
  have e0 : zSec = .agg Z := by rw [hZ.out]; rfl
  rw [e0] at hL
  have HN : Hid ((w.alloc (.cells X 91)).heap[w.heap.size]? = some (.cells X 91 (0, 0))) := heap_alloc_new _ _
  have sa := sec_all w.heap.size 0
  have hx := fun w => sec_index p.sb D.S.length k D.S.length hk w
  have HW := Lib.hid h
  have hlt := h.lt
  generalize D.S.length = N at c1 hh hx
  clear h hc hh' e0
  go_enter Tryz.func29, Tryz.ntmps29
  go_wp2_with fail
  refine (hr).mono ?_
  rintro e w2 ⟨rfl, rfl⟩
  go_wp2_with fail
  refine (hh).mono ?_
  rintro e w2 ⟨rfl, rfl⟩
  go_upto_region 7 with (first
    | ((with_reducible refine wpList_value (o := ⟨some 7, .alloc _, _, _, _, _⟩) (by with_unfolding_all rfl) (HA.out _ _ _ _ _) ?_))
    | ((with_reducible refine wpList_storeB (o := ⟨none, .store _ (.tmp 7) (.tmp 25), _, _, _, _⟩) rowS (.tmp 7) (.tmp 25) (by with_unfolding_all rfl) (by with_unfolding_all rfl) (by with_unfolding_all rfl) (by with_unfolding_all rfl) (by with_unfolding_all rfl) HN.out HX.out HZs.out HZo.out ?_); intro w3 hb3 hS3; have HB3 := Lib.hid hb3; have HS3 := Lib.hid hS3; clear hb3 hS3))
  have B3 : Below w2.heap.size w2 w3 := ((Below.refl _ w2).alloc (Nat.le_refl _) (.cells X 91)).trans (HS3.out.below (by simp) (fun j hj => by omega))
  have k1 := keep B3 c1
  have HLD := Lib.hid (sec_load (h := (B3.block _ hlt.2.1).trans HW.out.sec) HW.out.ok.sec k hk)
  rw [← hA.out] at HLD
  have HB3' := Lib.hid B3
  clear B3 c1
  go_wp2_with (first
    | ((with_reducible refine wpList_load_run (o := ⟨some 35, .load _ (.tmp 34), _, _, _, _⟩) (.tmp 34) (by with_unfolding_all rfl) (by with_unfolding_all rfl) (by with_unfolding_all rfl) HLD.out ?_))
    | ((with_reducible refine wpList_storeB (o := ⟨none, .store _ (.tmp 7) (.tmp 35), _, _, _, _⟩) rowS (.tmp 7) (.tmp 35) (by with_unfolding_all rfl) (by with_unfolding_all rfl) (by with_unfolding_all rfl) (by with_unfolding_all rfl) (by with_unfolding_all rfl) HB3.out HZs.out HAs.out HAo.out ?_); intro w4 hb4 hS4; have HB4 := Lib.hid hb4; have HS4 := Lib.hid hS4; clear hb4 hS4))
  go_ret2
  refine ⟨_, rfl, ?_, HB3'.out.trans (HS4.out.below HB3'.out.size (fun j hj => by omega))⟩
  have := mine_blk (B := w2.heap.size) HB4.out hA.out (by omega) (Nat.le_refl _)
  rwa [hrl] at this
set_option maxRecDepth 100000 in
theorem read_calls (w : World) (p : Pl) (D : Dk) (h : DiskAt w p D) (i : Int) : Calls Tryz.prog 29 #[.pointer (some ⟨p.b, 0, none⟩), .int .i64 i] w fun e w' =>
    ∃ a c, e = .returned (.tuple #[.slice a (readR D i).length c, .int .i64 (readE D i)]) ∧ Mine w.heap.size w' a (readR D i) c ∧ Below w.heap.size w w' := by
  by_cases hu : D.up = true
  · by_cases hi : 0 ≤ i ∧ i < D.S.length
    · have HF : readE D i = 0 := by rw [readE, if_neg (by rw [hu]; simp), if_pos hi]
      have HG : readR D i = getR D i.toNat := by rw [readR, if_pos ⟨hu, hi⟩]
      rw [HF, HG]
      obtain ⟨k, rfl⟩ : ∃ k : Nat, i = (k : Int) := ⟨i.toNat, by omega⟩
      rw [Int.toNat_natCast]
      have hk : k < D.S.length := by omega
      rw [h.ok.get hk]
      cases hC : D.C[k]?.join with
      | some r =>
        have hc : D.C[k]? = some (some r) := by
          cases hx : D.C[k]? with
          | none => rw [hx] at hC; simp at hC
          | some x => rw [hx] at hC; rw [show x = some r by simpa using hC]
        have HR : getR D k = r := by rw [getR, hC]; rfl
        refine (read_hit w p D h k hk hu r hc).mono ?_
        rintro e w' ⟨a, rfl, hm, hb⟩
        rw [HR]
        exact ⟨a, 64, rfl, hm, hb⟩
      | none =>
        have hc : ∀ r, D.C[k]? ≠ some (some r) := fun r hr => by rw [hr] at hC; simp at hC
        have HR : getR D k = D.S[k] := by rw [getR, hC]; simp [hk]
        refine (read_miss w p D h k hk hu hc).mono ?_
        rintro e w' ⟨a, rfl, hm, hb⟩
        rw [HR]
        exact ⟨a, 64, rfl, hm, hb⟩
    · have HF : readE D i = 61 := by rw [readE, if_neg (by rw [hu]; simp), if_neg hi]
      have HG : readR D i = [] := by rw [readR, if_neg (fun e => hi e.2)]
      rw [HF, HG]
      have hr := ready_calls w p D h
      have hh := dhas_calls w p D h i
      rw [hu] at hr
      rw [decide_eq_false hi] at hh
      clear h HF HG hi
      go_enter Tryz.func29, Tryz.ntmps29
      go_wp2_with fail
      refine (hr).mono ?_
      rintro e w2 ⟨rfl, rfl⟩
      go_wp2_with fail
      refine (hh).mono ?_
      rintro e w2 ⟨rfl, rfl⟩
      go_wp2_with fail
      go_ret2
      exact ⟨none, 0, rfl, Mine.nil _ _, Below.refl _ _⟩
  · have hu : D.up = false := by simpa using hu
    have HF : readE D i = 60 := by rw [readE, if_pos hu]
    have HG : readR D i = [] := by rw [readR, if_neg (by rw [hu]; simp)]
    rw [HF, HG]
    have hr := ready_calls w p D h
    rw [hu] at hr
    clear h HF HG
    go_enter Tryz.func29, Tryz.ntmps29
    go_wp2_with fail
    refine (hr).mono ?_
    rintro e w2 ⟨rfl, rfl⟩
    go_wp2_with fail
    go_ret2
    exact ⟨none, 0, rfl, Mine.nil _ _, Below.refl _ _⟩
set_option maxRecDepth 100000 in
theorem read_nil (w : World) (v : Value) (h : NoDisk w v) (i : Int) : Calls Tryz.prog 29 #[v, .int .i64 i] w fun e w' => e = .returned (.tuple #[.slice none 0 0, .int .i64 1]) ∧ w' = w := by
  have hr := ready_nil w v h
  clear h
  go_enter Tryz.func29, Tryz.ntmps29
  go_wp2_with fail
  refine (hr).mono ?_
  rintro e w2 ⟨rfl, rfl⟩
  go_wp2_with fail
  go_ret2
  exact ⟨rfl, rfl⟩
/-- What was flushed. -/
def flushedR (D : Dk) (i : Int) : List UInt8 := if 0 ≤ i ∧ i < D.S.length then D.S[i.toNat]?.getD [] else []
set_option maxRecDepth 100000 in
theorem flushed_calls (w : World) (p : Pl) (D : Dk) (h : DiskAt w p D) (i : Int) : Calls Tryz.prog 31 #[.pointer (some ⟨p.b, 0, none⟩), .int .i64 i] w fun e w' =>
    ∃ a c, e = .returned (.slice a (flushedR D i).length c) ∧ Cit.Own 5 w.heap.size w' a (flushedR D i) c ∧ Below w.heap.size w w' := by
  have hh := dhas_calls w p D h i
  by_cases hi : 0 ≤ i ∧ i < D.S.length
  · obtain ⟨k, rfl⟩ : ∃ k : Nat, i = (k : Int) := ⟨i.toNat, by omega⟩
    have hk : k < D.S.length := by omega
    have HG : flushedR D k = D.S[k] := by rw [flushedR, if_pos hi]; simp [hk]
    rw [HG]
    rw [decide_eq_true hi] at hh
    have hrl : D.S[k].length = 64 := h.ok.sec _ (List.getElem_mem hk)
    obtain ⟨_, c1, _⟩ := h.cells
    have hx := fun w => sec_index p.sb D.S.length k D.S.length hk w
    have sa := sec_all p.sb (k * 64)
    have HR : Row w (some ⟨p.sb, k * 64, none⟩) D.S[k] 64 := by
      refine ⟨by omega, by unfold maxLen; omega, fun h => by simp at h, fun _ => ⟨_, _, rfl⟩, fun j hj => ?_⟩
      simp only [ad]
      rw [World.cell?, h.sec]
      show (if (none : Option Nat).isSome = true then none else (secCells D.S)[k * 64 + j]?) = _
      simp only [List.getElem?_toArray]
      rw [flatGet64 D.S h.ok.sec k j hk (by omega)]
      simp [hj]
    have hc := clone_calls w _ _ _ HR (by omega)
    rw [hrl] at hc ⊢
    clear h HR HG hi hrl
    generalize D.S[k] = r at hc ⊢
    clear hk
    generalize D.S.length = N at *
    go_enter Tryz.func31, Tryz.ntmps31
    go_wp2_with fail
    refine (hh).mono ?_
    rintro e w2 ⟨rfl, rfl⟩
    go_wp2_with fail
    refine (hc).mono ?_
    rintro e w2 ⟨a, c, rfl, hO, hb⟩
    go_wp2_with fail
    go_ret
    exact ⟨a, c, rfl, hO, hb⟩
  · have HG : flushedR D i = [] := by rw [flushedR, if_neg hi]
    rw [HG]
    rw [decide_eq_false hi] at hh
    clear h HG hi
    go_enter Tryz.func31, Tryz.ntmps31
    go_wp2_with fail
    refine (hh).mono ?_
    rintro e w2 ⟨rfl, rfl⟩
    go_wp2_with fail
    go_ret
    exact ⟨none, 0, rfl, Cit.Own.nil _ _ _, Below.refl _ _⟩
set_option maxRecDepth 100000 in
theorem flushed_nil (w : World) (v : Value) (h : NoDisk w v) (i : Int) : Calls Tryz.prog 31 #[v, .int .i64 i] w fun e w' => e = .returned (.slice none 0 0) ∧ w' = w := by
  have hh := dhas_nil w v h i
  clear h
  go_enter Tryz.func31, Tryz.ntmps31
  go_wp2_with fail
  refine (hh).mono ?_
  rintro e w2 ⟨rfl, rfl⟩
  go_wp2_with fail
  go_ret
  exact ⟨rfl, rfl⟩
end Go.Proofs.YtofagofpeedfcaaGreat
