/- The wire laws' own fields: their bytes (put), their addition (add), how great they are (Great): contracts. -/
import Derived.Test.YtpnbaapjjchlbaaGx
import Derived.Test.YtpnbaapjjchlbaaGw
namespace Go.Proofs.Ytpnbaapjjchlbaa
open Go Go.RowKit Go.Cit

/-- A field. -/
structure Fl where
  what : Int
  x : UInt8
  n : Int
  is : Bool
  a : Option Addr
  l : List UInt8
  c : Nat
  t : List UInt8

def Fl.cs (f : Fl) : List Value := [.int .i64 f.what, vb f.x, .int .i64 f.n, .bool f.is, .slice f.a f.l.length f.c] ++ f.t.map vb
structure Fl.At (f : Fl) (w : World) : Prop where
  row : Row w f.a f.l f.c
  t32 : f.t.length = 32
  hn : -9223372036854775808 ≤ f.n ∧ f.n ≤ 9223372036854775807
  hw : -9223372036854775808 ≤ f.what ∧ f.what ≤ 9223372036854775807
  lr : f.l.length ≤ 140737488351232
theorem Fl.At.stay {f : Fl} {w w' : World} (h : f.At w) (hb : Below w.heap.size w w') : f.At w' := ⟨h.row.stay hb, h.t32, h.hn, h.hw, h.lr⟩

def Fl.bytes (f : Fl) : List UInt8 :=
  if f.what = 0 then [f.x] else if f.what = 1 then rowB (qOfI f.n) 8 else if f.what = 2 then flagB f.is else if f.what = 3 ∨ f.what = 4 then withB f.l else if f.what = 5 then f.t else []

theorem ref_with (m : List UInt8) : rowB (qOfI (m.length : Int)) 4 = rowB (qOfW (wOfI (m.length : Int))) 4 := by
  rw [← rowB_low (qOfI (m.length : Int))]
  have : wOfQ (qOfI (m.length : Int)) = wOfI (m.length : Int) := by
    apply UInt32.toNat_inj.1
    have h1 := wOfI_nat (m.length : Int)
    have h2 := qOfI_nat (m.length : Int)
    unfold wOfQ
    rw [UInt64.toNat_toUInt32]
    omega
  rw [this]

/-- A contract whose result is the call's own slice: the row under a name of its own. -/
def OwnRet (B : Nat) (w : World) (L : List UInt8) (e : Ending) (w' : World) : Prop := ∃ a X c, Hid (X = L) ∧ e = .returned (.slice a X.length c) ∧ Own 5 B w' a X c ∧ (X = [] → a = none) ∧ Below B w w'
theorem toO {f : FuncId} {args : Array Value} {w : World} {L : List UInt8} {n : Nat} (hn : L.length = n) (h0 : L ≠ []) (h : Calls Try.prog f args w fun e w' => ∃ a c, e = .returned (.slice a n c) ∧ Own 5 w.heap.size w' a L c ∧ Below w.heap.size w w') :
    Calls Try.prog f args w (OwnRet w.heap.size w L) :=
  h.mono fun _ _ ⟨a, c, h1, h2, h3⟩ => ⟨a, L, c, rfl, by rw [hn]; exact h1, h2, fun h => absurd h h0, h3⟩

theorem refint_calls (w : World) (n : Int) :
    Calls Try.prog 100 #[.int .i64 n] w (OwnRet w.heap.size w (rowB (qOfI n) 8)) := by
  have hq : IntKind.u64.wrap n = ((qOfI n).toNat : Int) := by rw [wrap_u64_eq, qOfI_nat]
  go_enter Try.func100, Try.ntmps100
  go_wp2_with fail
  refine (toO (rowB_length _ _) (by simp [rowB]) (refput_calls _ (qOfI n) 8 (by decide))).mono ?_
  rintro e w1 ⟨a1, X, c1, HX, rfl, hm⟩
  go_wp2_with fail
  go_ret
  exact ⟨a1, X, c1, HX, rfl, hm⟩

theorem refflag_calls (w : World) (is : Bool) :
    Calls Try.prog 101 #[.bool is] w (OwnRet w.heap.size w (flagB is)) := by
  have o1 := own_lit w #[.int .u8 1] 5 [1] rfl (by decide)
  have o0 := own_lit w #[.int .u8 0] 5 [0] rfl (by decide)
  go_enter Try.func101, Try.ntmps101
  cases is
  · go_wp2_with fail
    go_ret
    exact ⟨_, _, _, rfl, rfl, o0, fun h => by simp [flagB] at h, (Below.refl _ _).alloc (Nat.le_refl _) _⟩
  · go_wp2_with fail
    go_ret
    exact ⟨_, _, _, rfl, rfl, o1, fun h => by simp [flagB] at h, (Below.refl _ _).alloc (Nat.le_refl _) _⟩

theorem refbytes_calls (w : World) {a0 : Option Addr} {m : List UInt8} {c0 : Nat} (h0 : Row w a0 m c0) (hm : m.length ≤ 400000000) :
    Calls Try.prog 102 #[.slice a0 m.length c0] w (OwnRet w.heap.size w (withB m)) := by
  have hq : IntKind.u64.wrap (m.length : Int) = ((qOfI (m.length : Int)).toNat : Int) := by rw [wrap_u64_eq, qOfI_nat]
  go_enter Try.func102, Try.ntmps102
  go_wp2_with fail
  refine (refput_calls _ (qOfI (m.length : Int)) 4 (by decide)).mono ?_
  rintro e w1 ⟨a1, c1, rfl, hm1, hb1⟩
  have r1 := hm1.isRow
  have hk := toO (L := rowB (qOfI (m.length : Int)) 4 ++ m) rfl (by simp [rowB]) (refcat_calls _ _ _ _ _ _ _ r1 (h0.stay hb1) (by rw [rowB_length]; decide) hm)
  rw [rowB_length] at hk
  go_wp2_with fail
  refine Calls.mono hk ?_
  rintro e w2 ⟨a2, X, c2, HX, rfl, hm2, hn, hb2⟩
  go_wp2_with fail
  go_ret
  exact ⟨a2, X, c2, by rw [Hid, HX.out, ref_with]; rfl, rfl, hm2.low hb1.size, hn, hb1.trans (hb2.mono hb1.size)⟩

theorem fl_len (f : Fl) (h : f.t.length = 32) : f.cs.length = 37 := by simp [Fl.cs, h]
theorem wpList_load_op {ops : Array Oper} {rest : List Oper} {o : Oper} {act : Act} {w : World} {Q : Exit → Act → World → Prop} {T : TypeId} {x : Operand} {p v : Value} (hgd : o.guard = none) (ho : o.op = .load T x) (hx : act.eval x = p) (hr : (Instr.loadAt T p).run Try.prog w = .ok v w)
    (h : wpList Try.prog ops Q rest (act.put o.dst v) w) : wpList Try.prog ops Q (o :: rest) act w := by
  refine wpList_plain hgd fun K hK => ?_
  unfold Oper.wp execOp
  simp only [ho, hx, Sem.run_bind, hr]
  exact hK _ _ h

end Go.Proofs.Ytpnbaapjjchlbaa
