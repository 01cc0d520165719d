/- Configurations: windows, partitions, channels as lists; how an argument is opened. No condition. -/
import Derived.Test.YtpnbaapjjchlbaaVec
import Derived.Test.YtpnbaapjjchlbaaTy
import Derived.Test.YtpnbaapjjchlbaaOpen
import Derived.Test.YtpnbaapjjchlbaaProg
namespace Go.Cit
open Go Go.RowKit

/-- A number of 64 bits, with its range. -/
abbrev I64 := {n : Int // -9223372036854775808 ≤ n ∧ n ≤ 9223372036854775807}
def mkI (n : Int) : I64 := if h : -9223372036854775808 ≤ n ∧ n ≤ 9223372036854775807 then ⟨n, h⟩ else ⟨0, by decide⟩
theorem mkI_val {n : Int} (h : -9223372036854775808 ≤ n ∧ n ≤ 9223372036854775807) : (mkI n).1 = n := by unfold mkI; rw [dif_pos h]
@[reducible] def vi (n : I64) : Value := .int .i64 n.1

structure Win where
  len : I64
  part : I64
structure Reg where
  base : I64
  size : I64
structure Ch where
  id : I64
  src : I64
  dst : I64
  cap : I64
  size : I64
structure Pt where
  id : I64
  reg : Reg
  keep : Bool
  img : List UInt8
/-- A partition whose image lies in memory. -/
structure PtV where
  id : I64
  reg : Reg
  keep : Bool
  a : Option Addr
  img : List UInt8
  c : Nat
def PtV.pt (p : PtV) : Pt := ⟨p.id, p.reg, p.keep, p.img⟩
structure Cfg where
  wins : List Win
  parts : List Pt
  chans : List Ch
structure CfgV where
  wa : Option Addr
  ws : List Win
  wc : Nat
  pa : Option Addr
  ps : List PtV
  pc : Nat
  ca : Option Addr
  cs : List Ch
  cc : Nat
def CfgV.cfg (V : CfgV) : Cfg := ⟨V.ws, V.ps.map PtV.pt, V.cs⟩

instance : DecidableEq Win := fun a b => if h : a.len = b.len ∧ a.part = b.part then isTrue (by cases a; cases b; simp_all) else isFalse (by rintro rfl; simp at h)
instance : DecidableEq Reg := fun a b => if h : a.base = b.base ∧ a.size = b.size then isTrue (by cases a; cases b; simp_all) else isFalse (by rintro rfl; simp at h)
instance : DecidableEq Ch := fun a b => if h : a.id = b.id ∧ a.src = b.src ∧ a.dst = b.dst ∧ a.cap = b.cap ∧ a.size = b.size then isTrue (by cases a; cases b; simp_all) else isFalse (by rintro rfl; simp at h)
instance : DecidableEq Pt := fun a b => if h : a.id = b.id ∧ a.reg = b.reg ∧ a.keep = b.keep ∧ a.img = b.img then isTrue (by cases a; cases b; simp_all) else isFalse (by rintro rfl; simp at h)
instance : DecidableEq Cfg := fun a b => if h : a.wins = b.wins ∧ a.parts = b.parts ∧ a.chans = b.chans then isTrue (by cases a; cases b; simp_all) else isFalse (by rintro rfl; simp at h)
instance : Inhabited Win := ⟨⟨⟨0, by decide⟩, ⟨0, by decide⟩⟩⟩
instance : Inhabited Reg := ⟨⟨⟨0, by decide⟩, ⟨0, by decide⟩⟩⟩

@[reducible] def cWin (x : Win) : List Value := [.int .i64 x.len.1, .int .i64 x.part.1]
@[reducible] def cReg (x : Reg) : List Value := [.int .i64 x.base.1, .int .i64 x.size.1]
@[reducible] def cCh (x : Ch) : List Value := [.int .i64 x.id.1, .int .i64 x.src.1, .int .i64 x.dst.1, .int .i64 x.cap.1, .int .i64 x.size.1]
@[reducible] def cPt (x : PtV) : List Value := [.int .i64 x.id.1, .int .i64 x.reg.base.1, .int .i64 x.reg.size.1, .bool x.keep, .slice x.a x.img.length x.c]
@[reducible] def cCfg (V : CfgV) : List Value := [.slice V.wa V.ws.length V.wc, .slice V.pa V.ps.length V.pc, .slice V.ca V.cs.length V.cc]
@[reducible] def cI (x : I64) : List Value := [.int .i64 x.1]

theorem cWin_len : ∀ x, (cWin x).length = 2 := fun _ => rfl
theorem cReg_len : ∀ x, (cReg x).length = 2 := fun _ => rfl
theorem cCh_len : ∀ x, (cCh x).length = 5 := fun _ => rfl
theorem cPt_len : ∀ x, (cPt x).length = 5 := fun _ => rfl
theorem cI_len : ∀ x, (cI x).length = 1 := fun _ => rfl
theorem cWin_one : ∀ x, ∀ u ∈ cWin x, u.oneCell' = true := by intro x u hu; simp at hu; rcases hu with rfl | rfl <;> rfl
theorem cReg_one : ∀ x, ∀ u ∈ cReg x, u.oneCell' = true := by intro x u hu; simp at hu; rcases hu with rfl | rfl <;> rfl
theorem cCh_one : ∀ x, ∀ u ∈ cCh x, u.oneCell' = true := by intro x u hu; simp at hu; rcases hu with rfl | rfl | rfl | rfl | rfl <;> rfl
theorem cPt_one : ∀ x, ∀ u ∈ cPt x, u.oneCell' = true := by intro x u hu; simp at hu; rcases hu with rfl | rfl | rfl | rfl | rfl <;> rfl
theorem cI_one : ∀ x, ∀ u ∈ cI x, u.oneCell' = true := by intro x u hu; obtain rfl : u = .int .i64 x.1 := by simpa using hu
                                                          rfl

/-- A configuration in memory. -/
structure CfgV.At (w : World) (V : CfgV) : Prop where
  win : Vec cWin 2 w V.wa V.ws V.wc
  pts : Vec cPt 5 w V.pa V.ps V.pc
  chs : Vec cCh 5 w V.ca V.cs V.cc
  img : ∀ x ∈ V.ps, Row w x.a x.img x.c
theorem CfgV.At.stay {w w' : World} {V : CfgV} (h : V.At w) (hb : Below w.heap.size w w') : V.At w' :=
  ⟨h.win.stay cWin_len hb, h.pts.stay cPt_len hb, h.chs.stay cCh_len hb, fun x hx => (h.img x hx).stay hb⟩

def shWin : Sh false := .st (.cons .i64 (.cons .i64 .nil))
def shReg : Sh false := .st (.cons .i64 (.cons .i64 .nil))
def shCh : Sh false := .st (.cons .i64 (.cons .i64 (.cons .i64 (.cons .i64 (.cons .i64 .nil)))))
def shPt : Sh false := .st (.cons .i64 (.cons shReg (.cons .bool (.cons .bytes .nil))))
def shCfg : Sh false := .st (.cons (.slice shWin) (.cons (.slice shPt) (.cons (.slice shCh) .nil)))
def toWin (d : shWin.D) : Win := ⟨mkI d.1, mkI d.2.1⟩
def toCh (d : shCh.D) : Ch := ⟨mkI d.1, mkI d.2.1, mkI d.2.2.1, mkI d.2.2.2.1, mkI d.2.2.2.2.1⟩
def toPt (d : shPt.D) : PtV := ⟨mkI d.1, ⟨mkI d.2.1.1, mkI d.2.1.2.1⟩, d.2.2.1, d.2.2.2.1.a, d.2.2.2.1.l, d.2.2.2.1.c⟩
def toCfg (d : shCfg.D) : CfgV := ⟨d.1.a, d.1.l.map toWin, d.1.c, d.2.1.a, d.2.1.l.map toPt, d.2.1.c, d.2.2.1.a, d.2.2.1.l.map toCh, d.2.2.1.c⟩
theorem toWin_cs {w : World} {d : shWin.D} (h : shWin.ok w d) : shWin.enc d = cWin (toWin d) := by
  obtain ⟨x, y, ⟨⟩⟩ := d
  obtain ⟨h1, h2, _⟩ := h
  show [Value.int .i64 x, .int .i64 y] = [.int .i64 (mkI x).1, .int .i64 (mkI y).1]
  rw [mkI_val h1, mkI_val h2]
theorem toCh_cs {w : World} {d : shCh.D} (h : shCh.ok w d) : shCh.enc d = cCh (toCh d) := by
  obtain ⟨x1, x2, x3, x4, x5, ⟨⟩⟩ := d
  obtain ⟨h1, h2, h3, h4, h5, _⟩ := h
  show [Value.int .i64 x1, .int .i64 x2, .int .i64 x3, .int .i64 x4, .int .i64 x5] = [.int .i64 (mkI x1).1, .int .i64 (mkI x2).1, .int .i64 (mkI x3).1, .int .i64 (mkI x4).1, .int .i64 (mkI x5).1]
  rw [mkI_val h1, mkI_val h2, mkI_val h3, mkI_val h4, mkI_val h5]
theorem toPt_cs {w : World} {d : shPt.D} (h : shPt.ok w d) : shPt.enc d = cPt (toPt d) ∧ Row w (toPt d).a (toPt d).img (toPt d).c := by
  obtain ⟨x1, ⟨x2, x3, ⟨⟩⟩, x4, ⟨a, c, l⟩, ⟨⟩⟩ := d
  obtain ⟨h1, ⟨h2, h3, _⟩, _, h5, _⟩ := h
  refine ⟨?_, h5.1⟩
  show [Value.int .i64 x1, .int .i64 x2, .int .i64 x3, .bool x4, .slice a l.length c] = [.int .i64 (mkI x1).1, .int .i64 (mkI x2).1, .int .i64 (mkI x3).1, .bool x4, .slice a l.length c]
  rw [mkI_val h1, mkI_val h2, mkI_val h3]
theorem vec_sh {α : Type} {s : Sh false} {t : s.D → α} {f : α → List Value} {w : World} {d : Sl s.D} (ht : ∀ x, s.ok w x → s.enc x = f (t x)) (h : (Sh.slice s).ok w d) : Vec f s.size w d.a (d.l.map t) d.c := by
  obtain ⟨h1, h2, h3, h4, h5⟩ := h
  refine ⟨by rw [List.length_map]; exact h1, by unfold maxLen; omega, h3, fun hne => h4 (by simpa using hne), fun i hi j hj => ?_⟩
  rw [List.length_map] at hi
  rw [List.getElem_map, ← ht _ (h5 i hi).2]
  exact (h5 i hi).1 j hj
theorem toCfg_at {w : World} {d : shCfg.D} (h : shCfg.ok w d) : (toCfg d).At w := by
  obtain ⟨h1, h2, h3, _⟩ := h
  refine ⟨vec_sh (fun x hx => toWin_cs hx) h1, vec_sh (fun x hx => (toPt_cs hx).1) h2, vec_sh (fun x hx => toCh_cs hx) h3, fun x hx => ?_⟩
  obtain ⟨y, hy, rfl⟩ := List.mem_map.1 hx
  obtain ⟨i, hi, rfl⟩ := List.mem_iff_getElem.1 hy
  exact (toPt_cs (h2.2.2.2.2 i hi).2).2
theorem toCfg_cs (d : shCfg.D) : shCfg.enc d = cCfg (toCfg d) := by
  obtain ⟨⟨a1, c1, l1⟩, ⟨a2, c2, l2⟩, ⟨a3, c3, l3⟩, ⟨⟩⟩ := d
  show [Value.slice a1 l1.length c1, .slice a2 l2.length c2, .slice a3 l3.length c3] = [Value.slice a1 (l1.map toWin).length c1, .slice a2 (l2.map toPt).length c2, .slice a3 (l3.map toCh).length c3]
  rw [List.length_map, List.length_map, List.length_map]

/-- An element's fields. -/
theorem Vec.field {α : Type} {f : α → List Value} {n : Nat} {w : World} {a : Option Addr} {l : List α} {c : Nat} (h : Vec f n w a l c) (i : Nat) (hi : i < l.length) (j : Nat) (hj : j < n) {v : Value} (hv : (f l[i])[j]? = some v) :
    w.cell? ⟨(ad a (i * n)).block, (ad a (i * n)).off + j, none⟩ = some v := by
  obtain ⟨b, off, rfl⟩ := h.spot (by intro h0; simp [h0] at hi)
  have := h.cell i hi j hj
  rw [hv] at this
  simpa [ad, Nat.add_assoc] using this
theorem Vec.field0 {α : Type} {f : α → List Value} {n : Nat} {w : World} {a : Option Addr} {l : List α} {c : Nat} (h : Vec f n w a l c) (i : Nat) (hi : i < l.length) (hj : 0 < n) {v : Value} (hv : (f l[i])[0]? = some v) :
    w.cell? (ad a (i * n)) = some v := by
  have := h.field i hi 0 hj hv
  obtain ⟨b, off, rfl⟩ := h.spot (by intro h0; simp [h0] at hi)
  simpa [ad] using this
end Go.Cit

namespace Go.Proofs.Ytpnbaapjjchlbaa
open Go Go.RowKit Go.Cit
theorem etW : ElemType Try.prog 22 52 2 16 (.agg #[.int .i64 0, .int .i64 0]) := ⟨Try.underlying22, by kernel_rfl, fun w => by kernel_rfl, rfl, by decide, by decide⟩
theorem etC : ElemType Try.prog 24 54 5 40 (.agg #[.int .i64 0, .int .i64 0, .int .i64 0, .int .i64 0, .int .i64 0]) := ⟨Try.underlying24, by kernel_rfl, fun w => by kernel_rfl, rfl, by decide, by decide⟩
theorem etP : ElemType Try.prog 23 43 5 56 (.agg #[.int .i64 0, .int .i64 0, .int .i64 0, .bool false, .slice none 0 0]) := ⟨Try.underlying23, by kernel_rfl, fun w => by kernel_rfl, rfl, by decide, by decide⟩
theorem etR : ElemType Try.prog 48 40 2 16 (.agg #[.int .i64 0, .int .i64 0]) := ⟨Try.underlying48, by kernel_rfl, fun w => by kernel_rfl, rfl, by decide, by decide⟩
theorem etE : ElemType Try.prog 29 33 1 8 (.int .i64 0) := ⟨Try.underlying29, by kernel_rfl, fun w => by kernel_rfl, rfl, by decide, by decide⟩
theorem etI : ElemType Try.prog 31 3 1 8 (.int .i64 0) := ⟨Try.underlying31, by kernel_rfl, fun w => by kernel_rfl, rfl, by decide, by decide⟩
theorem fits_cfg : shCfg.fits Try.prog 26 [] 0 = true := by kernel_rfl
end Go.Proofs.Ytpnbaapjjchlbaa
