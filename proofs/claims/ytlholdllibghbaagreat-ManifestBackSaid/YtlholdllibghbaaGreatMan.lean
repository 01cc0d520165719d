/- Manifests in memory: their cells, how an argument is opened, a variable that holds one, what is loaded from it, stored into it. No condition. -/
import Derived.Test.YtlholdllibghbaaGreatG02
import Derived.Test.YtlholdllibghbaaGreatG08
import Derived.Test.YtlholdllibghbaaGreatG10
import Derived.Test.YtlholdllibghbaaGreatG07
import Derived.Test.YtlholdllibghbaaGreatG11
import Derived.Test.YtlholdllibghbaaGreatG16
import Derived.Laws.CopyRow
namespace Go.Cit
open Go Go.RowKit

def splA (C : Array Value) (o : Nat) (D : List Value) : Array Value := (C.toList.take o ++ D ++ C.toList.drop (o + D.length)).toArray
theorem splA_of {X Y Z D : List Value} (h : D.length = Y.length) : splA (X ++ (Y ++ Z)).toArray X.length D = (X ++ (D ++ Z)).toArray := by
  unfold splA
  congr 1
  rw [List.toList_toArray, List.take_left, List.append_assoc, h]
  congr 2
  rw [← List.append_assoc, ← List.length_append, List.drop_left]

section
variable {P : Program} {ops : Array Oper} {rest : List Oper} {o : Oper} {act : Act} {w w' : World} {Q : Exit → Act → World → Prop}
theorem exec_storeM {T E : TypeId} {b k n : Nat} {C D : Array Value} (hi : (P.info? T).map (·.size) = some n) (x y : Operand) {ρ : Operand → Value} (ho : o.op = .store T x y) (hx : ρ x = .pointer (some ⟨b, k, none⟩)) (hy : ρ y = .agg D) (hn : D.size = n) (hb : w.heap[b]? = some (.cells C E (0, 0)))
    (hl : k + n ≤ C.size) (h1 : D.all (·.oneCell') = true) : (execOp ρ o).run P w = .ok .skip (w.setRow b (splA C k D.toList)) := by
  have hs := run_storeCells_at (P := P) b k E D.toList 0 C w hb (by simp; omega) (fun v hv => (Array.all_eq_true_iff_forall_mem.1 h1) v (by simpa using hv))
  simp only [Nat.add_zero] at hs
  unfold execOp
  simp only [ho, hx, hy, Instr.storeAt, Instr.sureAddr, Sem.run_bind, Sem.run_pure, Result.andThen_ok]
  have : (storeVar T ⟨b, k, none⟩ (.agg D)).run P w = .ok () (w.setRow b (splA C k D.toList)) := by
    cases hq : P.info? T with
    | none => simp [hq] at hi
    | some i =>
      have h2 : D.size = i.size := by simp [hq] at hi; omega
      simp [storeVar, sizeOf, typeInfo, hq, Value.cells, h2, hs, splA]
  rw [this]
  rfl
theorem wpList_storeM {T E : TypeId} {b k n : Nat} {C D : Array Value} (hi : (P.info? T).map (·.size) = some n) (x y : Operand) (hgd : o.guard = none) (ho : o.op = .store T x y) (hd : o.dst = none) (hx : act.eval x = .pointer (some ⟨b, k, none⟩)) (hy : act.eval y = .agg D) (hn : D.size = n)
    (hb : w.heap[b]? = some (.cells C E (0, 0))) (hl : k + n ≤ C.size) (h1 : D.all (·.oneCell') = true)
    (h : ∀ w', w'.heap[b]? = some (.cells (splA C k D.toList) E (0, 0)) → Save (· ≠ b) w w' → wpList P ops Q rest act w') : wpList P ops Q (o :: rest) act w := by
  refine wpList_skip (w' := w.setRow b (splA C k D.toList)) hgd (exec_storeM hi x y ho hx hy hn hb hl h1) ?_
  rw [hd]; exact h _ (setRow_same hb) (setRow_save _ _ _)
end

structure ManV where
  ver : I64
  prev : List UInt8
  trial : I64
  cfg : CfgV
  tag : List UInt8
structure Man where
  ver : I64
  prev : List UInt8
  trial : I64
  cfg : Cfg
  tag : List UInt8
def ManV.man (M : ManV) : Man := ⟨M.ver, M.prev, M.trial, M.cfg.cfg, M.tag⟩
def ManV.cs (M : ManV) : List Value := [.int .i64 M.ver.1] ++ (M.prev.map vb ++ ([.int .i64 M.trial.1] ++ (cCfg M.cfg ++ M.tag.map vb)))
def cM (M : ManV) : Array Value := M.cs.toArray
structure ManV.At (w : World) (M : ManV) : Prop where
  p32 : M.prev.length = 32
  t32 : M.tag.length = 32
  cfg : M.cfg.At w
theorem ManV.At.stay {w w' : World} {M : ManV} (h : M.At w) (hb : Below w.heap.size w w') : M.At w' := ⟨h.p32, h.t32, h.cfg.stay hb⟩
theorem cM_size {M : ManV} (hp : M.prev.length = 32) (ht : M.tag.length = 32) : (cM M).size = 69 := by simp [cM, ManV.cs, hp, ht]
theorem cM_one (M : ManV) : (cM M).all (·.oneCell') = true := by simp [cM, ManV.cs, cCfg, vb, Value.oneCell']

def shMan : Sh false := .st (.cons .i64 (.cons (.arr 32 .u8) (.cons .i64 (.cons shCfg (.cons (.arr 32 .u8) .nil)))))
def toMan (d : shMan.D) : ManV := ⟨mkI d.1, d.2.1, mkI d.2.2.1, toCfg d.2.2.2.1, d.2.2.2.2.1⟩
theorem u8_flat (t : List UInt8) : List.flatMap (Sh.enc .u8) t = t.map vb := by
  induction t with
  | nil => rfl
  | cons y t ih => rw [List.flatMap_cons, ih]; rfl
theorem toMan_cs {w : World} {d : shMan.D} (h : shMan.ok w d) : shMan.enc d = (toMan d).cs := by
  obtain ⟨x, p, y, c, t, ⟨⟩⟩ := d
  obtain ⟨h1, _, h3, _⟩ := h
  show [Value.int .i64 x] ++ (List.flatMap (Sh.enc .u8) p ++ ([Value.int .i64 y] ++ (shCfg.enc c ++ (List.flatMap (Sh.enc .u8) t ++ [])))) = [.int .i64 (mkI x).1] ++ (p.map vb ++ ([.int .i64 (mkI y).1] ++ (cCfg (toCfg c) ++ t.map vb)))
  rw [u8_flat, u8_flat, toCfg_cs, List.append_nil, mkI_val h1, mkI_val h3]
theorem toMan_at {w : World} {d : shMan.D} (h : shMan.ok w d) : (toMan d).At w := by
  obtain ⟨x, p, y, c, t, ⟨⟩⟩ := d
  obtain ⟨_, h2, _, h4, h5, _⟩ := h
  exact ⟨h2.1, h5.1, toCfg_at h4⟩
end Go.Cit

namespace Go.Proofs.YtlholdllibghbaaGreat
open Go Go.RowKit Go.Cit

theorem rowM : RowType Tryz.prog 55 69 := ⟨⟨_, Tryz.underlying55, rfl⟩, by kernel_rfl⟩
theorem rowC : RowType Tryz.prog 26 3 := ⟨⟨_, Tryz.underlying26, rfl⟩, by kernel_rfl⟩
theorem mf0 (b : Nat) (W : World) : (Instr.fieldAt 55 (.pointer (some ⟨b, 0, none⟩)) 0).run Tryz.prog W = .ok (.pointer (some ⟨b, 0, none⟩)) W := by kernel_rfl
theorem mf1 (b : Nat) (W : World) : (Instr.fieldAt 55 (.pointer (some ⟨b, 0, none⟩)) 1).run Tryz.prog W = .ok (.pointer (some ⟨b, 1, none⟩)) W := by kernel_rfl
theorem mf2 (b : Nat) (W : World) : (Instr.fieldAt 55 (.pointer (some ⟨b, 0, none⟩)) 2).run Tryz.prog W = .ok (.pointer (some ⟨b, 33, none⟩)) W := by kernel_rfl
theorem mf3 (b : Nat) (W : World) : (Instr.fieldAt 55 (.pointer (some ⟨b, 0, none⟩)) 3).run Tryz.prog W = .ok (.pointer (some ⟨b, 34, none⟩)) W := by kernel_rfl
theorem mf4 (b : Nat) (W : World) : (Instr.fieldAt 55 (.pointer (some ⟨b, 0, none⟩)) 4).run Tryz.prog W = .ok (.pointer (some ⟨b, 37, none⟩)) W := by kernel_rfl

structure InM (w : World) (g : Nat) (M : ManV) : Prop where
  blk : w.heap[g]? = some (.cells (cM M) 55 (0, 0))
  p32 : M.prev.length = 32
  t32 : M.tag.length = 32
section
variable {w w' : World} {g : Nat} {M : ManV}
theorem InM.new (w : World) (h : M.At w) : InM (w.alloc (.cells (cM M) 55)) w.heap.size M := ⟨heap_alloc_new _ _, h.p32, h.t32⟩
theorem InM.lt (h : InM w g M) : g < w.heap.size := (Array.getElem?_eq_some_iff.1 h.blk).1
theorem InM.keep (h : InM w g M) (hb : Below w.heap.size w w') : InM w' g M := ⟨blk_stay h.blk hb, h.p32, h.t32⟩
theorem InM.save {S : Nat → Prop} (h : InM w g M) (hs : Save S w w') (hg : S g) : InM w' g M := ⟨(hs.block g h.lt hg).trans h.blk, h.p32, h.t32⟩
theorem InM.size (h : InM w g M) : (cM M).size = 69 := cM_size h.p32 h.t32
theorem InM.cell (h : InM w g M) (k : Nat) : w.cell? ⟨g, k, none⟩ = M.cs[k]? := by rw [World.cell?, h.blk]; exact (by simp [cM] : (cM M)[k]? = M.cs[k]?)
theorem InM.ver (h : InM w g M) : w.cell? ⟨g, 0, none⟩ = some (.int .i64 M.ver.1) := by rw [h.cell]; rfl
theorem InM.trial (h : InM w g M) : w.cell? ⟨g, 33, none⟩ = some (.int .i64 M.trial.1) := by
  rw [h.cell, ManV.cs, List.getElem?_append_right (by simp), List.getElem?_append_right (by simp [h.p32])]
  simp [h.p32]
theorem InM.cfgs (h : InM w g M) (j : Nat) (hj : j < 3) : w.cell? ⟨g, 34 + j, none⟩ = (cCfg M.cfg)[j]? := by
  rw [h.cell, ManV.cs, List.getElem?_append_right (by simp; omega), List.getElem?_append_right (by simp [h.p32]; omega), List.getElem?_append_right (by simp [h.p32]; omega), List.getElem?_append_left (by simp [h.p32]; omega)]
  simp only [List.length_map, h.p32, List.length_singleton]
  rw [show 34 + j - 1 - 32 - 1 = j by omega]
theorem InM.in34 (h : InM w g M) : (Instr.loadAt 26 (.pointer (some ⟨g, 34, none⟩))).run Tryz.prog w = .ok (.agg #[.slice M.cfg.wa M.cfg.ws.length M.cfg.wc, .slice M.cfg.pa M.cfg.ps.length M.cfg.pc, .slice M.cfg.ca M.cfg.cs.length M.cfg.cc]) w := by
  refine run_loadAt_mid w g 34 26 (cCfg M.cfg) _ (fun j v hv => ?_) Tryz.underlying26 rfl (by kernel_rfl)
  have hj : j < 3 := by simpa using (List.getElem?_eq_some_iff.1 hv).1
  rw [h.cfgs j hj]; exact hv
theorem InM.prev (h : InM w g M) : (Instr.loadAt 53 (.pointer (some ⟨g, 1, none⟩))).run Tryz.prog w = .ok (.agg (M.prev.map vb).toArray) w := by
  refine load_tag w g 1 M.prev h.p32 fun k hk => ?_
  rw [h.cell, ManV.cs, List.getElem?_append_right (by simp), List.getElem?_append_left (by simp; omega)]
  simp [hk]
theorem InM.tag (h : InM w g M) : (Instr.loadAt 53 (.pointer (some ⟨g, 37, none⟩))).run Tryz.prog w = .ok (.agg (M.tag.map vb).toArray) w := by
  refine load_tag w g 37 M.tag h.t32 fun k hk => ?_
  rw [h.cell, ManV.cs, List.getElem?_append_right (by simp; omega), List.getElem?_append_right (by simp [h.p32]; omega), List.getElem?_append_right (by simp [h.p32]; omega), List.getElem?_append_right (by simp [h.p32]; omega)]
  simp only [List.length_map, h.p32, List.length_singleton, List.length_cons, List.length_nil]
  rw [show 37 + k - 1 - 32 - 1 - (0 + 1 + 1 + 1) = k by omega]
  simp [hk]
theorem InM.whole (h : InM w g M) : (Instr.loadAt 55 (.pointer (some ⟨g, 0, none⟩))).run Tryz.prog w = .ok (.agg (cM M)) w := by
  refine run_loadAt_mid w g 0 55 M.cs _ (fun j v hv => ?_) Tryz.underlying55 rfl ?_
  · rw [Nat.zero_add, h.cell]; exact hv
  · rw [show M.cs.length = 69 from by have := h.size; simpa [cM] using this]; kernel_rfl
theorem spl_prev (hp : M.prev.length = 32) {t : List UInt8} (ht : t.length = 32) : splA (cM M) 1 (t.map vb) = cM { M with prev := t } := by
  have := splA_of (X := [Value.int .i64 M.ver.1]) (Y := M.prev.map vb) (Z := [.int .i64 M.trial.1] ++ (cCfg M.cfg ++ M.tag.map vb)) (D := t.map vb) (by simp [hp, ht])
  exact this
theorem spl_tag (hp : M.prev.length = 32) (ht : M.tag.length = 32) {t : List UInt8} (h : t.length = 32) : splA (cM M) 37 (t.map vb) = cM { M with tag := t } := by
  have := splA_of (X := [Value.int .i64 M.ver.1] ++ (M.prev.map vb ++ ([.int .i64 M.trial.1] ++ cCfg M.cfg))) (Y := M.tag.map vb) (Z := []) (D := t.map vb) (by simp [ht, h])
  simp only [List.append_nil, List.append_assoc] at this
  have hl : ([Value.int .i64 M.ver.1] ++ (M.prev.map vb ++ ([.int .i64 M.trial.1] ++ cCfg M.cfg)) : List Value).length = 37 := by simp [hp]
  rw [hl] at this
  exact this
theorem spl_cfg (hp : M.prev.length = 32) (U : CfgV) : splA (cM M) 34 (cCfg U) = cM { M with cfg := U } := by
  have := splA_of (X := [Value.int .i64 M.ver.1] ++ (M.prev.map vb ++ [.int .i64 M.trial.1])) (Y := cCfg M.cfg) (Z := M.tag.map vb) (D := cCfg U) (by simp)
  simp only [List.append_assoc] at this
  have hl : ([Value.int .i64 M.ver.1] ++ (M.prev.map vb ++ [.int .i64 M.trial.1]) : List Value).length = 34 := by simp [hp]
  rw [hl] at this
  exact this
theorem spl_trial (hp : M.prev.length = 32) (n : I64) : splA (cM M) 33 [.int .i64 n.1] = cM { M with trial := n } := by
  have := splA_of (X := [Value.int .i64 M.ver.1] ++ M.prev.map vb) (Y := [.int .i64 M.trial.1]) (Z := cCfg M.cfg ++ M.tag.map vb) (D := [.int .i64 n.1]) (by simp)
  simp only [List.append_assoc] at this
  have hl : ([Value.int .i64 M.ver.1] ++ M.prev.map vb : List Value).length = 33 := by simp [hp]
  rw [hl] at this
  exact this
theorem set_splA {C : Array Value} {k : Nat} (v : Value) (hk : k < C.size) : C.setIfInBounds k v = splA C k [v] := by
  apply Array.ext'
  unfold splA
  rw [Array.toList_setIfInBounds, List.toList_toArray, List.set_eq_take_append_cons_drop, if_pos (by simpa using hk)]
  simp
theorem InM.setTrial (h : InM w g M) (n : I64) : InM (w.setCell ⟨g, 33, none⟩ (.int .i64 n.1)) g { M with trial := n } := by
  refine ⟨?_, h.p32, h.t32⟩
  rw [← spl_trial h.p32 n, ← set_splA _ (by rw [h.size]; decide)]
  simp [World.setCell, Array.getElem?_modify, h.blk]
theorem InM.setVer (h : InM w g M) (n : I64) : InM (w.setCell ⟨g, 0, none⟩ (.int .i64 n.1)) g { M with ver := n } := by
  refine ⟨?_, h.p32, h.t32⟩
  simp [World.setCell, Array.getElem?_modify, h.blk, cM, ManV.cs]
end
end Go.Proofs.YtlholdllibghbaaGreat
