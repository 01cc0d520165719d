/- ConfigFinds: the walk of the law. -/
import Derived.Test.YtpnbaapjjchlbaaSpoil
import Derived.Test.YtpnbaapjjchlbaaRefChan
namespace Go.Proofs.Ytpnbaapjjchlbaa
open Go Go.RowKit Go.Cit

theorem load_pt {w0 w : World} {a : Option Addr} {l : List PtV} {c : Nat} (h : Vec cPt 5 w0 a l c) (hb : Below w0.heap.size w0 w) (k : Nat) (hk : k < l.length) : (Instr.loadAt 43 (.pointer (some (ad a (k * 5))))).run Try.prog w = .ok (.agg (cA l[k])) w := by
  obtain ⟨u0, u1, u2, u3, u4⟩ := pts_cells h hb k hk
  have e : ad a (k * 5) = ⟨(ad a (k * 5)).block, (ad a (k * 5)).off, none⟩ := by cases a <;> rfl
  rw [e] at u0
  rw [e]
  refine run_loadAt_mid w _ _ 43 [.int .i64 l[k].id.1, .int .i64 l[k].reg.base.1, .int .i64 l[k].reg.size.1, .bool l[k].keep, .slice l[k].a l[k].img.length l[k].c] _ (fun j v hv => ?_) Try.underlying43 rfl (by kernel_rfl)
  match j, hv with
  | 0, hv => injection hv with hv; rw [← hv]; exact u0
  | 1, hv => injection hv with hv; rw [← hv]; exact u1
  | 2, hv => injection hv with hv; rw [← hv]; exact u2
  | 3, hv => injection hv with hv; rw [← hv]; exact u3
  | 4, hv => injection hv with hv; rw [← hv]; exact u4
@[reducible] def zP : Array Value := #[.int .i64 0, .int .i64 0, .int .i64 0, .bool false, .slice none 0 0]
theorem neq_ch (c : Ch) (x y : Operand) (w : World) : (do eqGuard .neq 54 x y (.agg (cA5 c)) (.agg (cA5 c)); binOp .neq 54 (.agg (cA5 c)) (.agg (cA5 c)) : Sem Value).run Try.prog w = .ok (.bool false) w := by
  have h := run_neq_op gdC x y (eqIn_ch c.id.1 c.src.1 c.dst.1 c.cap.1 c.size.1 c.id.1 c.src.1 c.dst.1 c.cap.1 c.size.1) w
  rw [decide_eq_true ⟨rfl, rfl, rfl, rfl, rfl⟩] at h
  exact h
theorem findI_some {α : Type} (p : α → Bool) (l : List α) (h : l.any p = true) : ∃ i : Nat, ∃ _ : i < l.length, findI p l = i := by
  have h0 := findI_any p l
  rw [h] at h0
  unfold findI at h0 ⊢
  cases e : l.findIdx? p with
  | none => rw [e] at h0; simp at h0
  | some i => exact ⟨i, (List.findIdx?_eq_some_iff_getElem.1 e).1, rfl⟩
theorem getP_i {ps : List PtV} {id : Int} {i : Nat} (hi : i < ps.length) (h : findI (fun x : PtV => decide (x.id.1 = id)) ps = i) : getP ps id = ps[i].pt := by
  rw [getP, findI_get _ _ i hi h]; rfl
theorem getC_i {cs : List Ch} {id : Int} {i : Nat} (hi : i < cs.length) (h : findI (fun x : Ch => decide (x.id.1 = id)) cs = i) : getC cs id = cs[i] := by
  rw [getC, findI_get _ _ i hi h]; rfl
theorem room_own {B : Nat} {w : World} {a : Option Addr} {l : List UInt8} {c : Nat} (h : Cit.Own 5 B w a l c) (hne : l ≠ []) : Room w a l.length B 5 := by
  have hr := h.isRow
  obtain ⟨g, off, rfl⟩ := hr.spot hne
  obtain ⟨cs, hg⟩ := vown_block h.vown (g := g) rfl
  refine ⟨g, off, cs, rfl, (h.blk_ge rfl).1, hg, ?_⟩
  have hl : 0 < l.length := List.length_pos_iff.2 hne
  have hc := hr.cell (l.length - 1) (by omega)
  rw [ad_off, World.cell?, hg] at hc
  have hlt : off + (l.length - 1) < cs.size := (Array.getElem?_eq_some_iff.1 hc).1
  omega
/-- An image that may be written over, and the partition's box. -/
structure ImI (w4 : World) (p8 : Nat) (x : PtV) (w : World) : Prop where
  room : x.img ≠ [] → Room w x.a x.img.length w4.heap.size 5
  byt : ∀ k, k < x.img.length → ∃ b : UInt8, w.cell? (ad x.a k) = some (vb b)
  box : w.heap[p8]? = some (.cells (cA x) 43 (0, 0))
  low : Below w4.heap.size w4 w
theorem ImI.set {w4 w : World} {p8 : Nat} {x : PtV} (h : ImI w4 p8 x w) (k : Nat) (hk : k < x.img.length) (b : UInt8) : ImI w4 p8 x (w.setCell (ad x.a k) (vb b)) := by
  have hne : x.img ≠ [] := by intro h1; rw [h1] at hk; simp at hk
  obtain ⟨g, off, cs, ea, hB, hg, hs⟩ := h.room hne
  have hsz : (w.setCell (ad x.a k) (vb b)).heap.size = w.heap.size := by simp [World.setCell]
  refine ⟨fun e => ?_, fun j hj => ?_, ?_, h.low.trans ⟨rfl, rfl, rfl, by rw [hsz]; exact Nat.le_refl _, fun j hj => ?_⟩⟩
  · rw [ea, ad_off, ← ea]; exact (h.room e).set hg
  · obtain ⟨c, hc⟩ := h.byt j hj
    by_cases e : ad x.a j = ad x.a k
    · rw [e] at hc ⊢
      exact ⟨b, World.cell?_setCell_same' _ _ _ (by rw [hc]; rfl)⟩
    · exact ⟨c, by rw [World.cell?_setCell_other _ _ _ _ (Ne.symm e)]; exact hc⟩
  · rw [ea, ad_off, setCell_other _ ?_]; exact h.box
    rintro rfl
    have hx := h.box
    rw [hg] at hx
    injection hx with hx
    injection hx with _ hT
    exact absurd hT (by decide)
  · rw [ea, ad_off, setCell_other _ (by omega)]
/-- What lies below the copy. -/
structure FiA (V D U : CfgV) (N p7 : Nat) (w : World) : Prop where
  v : V.At w
  d : D.At w
  u : U.At w
  iv : InBox w N V
  id : InBox w (N + 1) D
  iu : InBox w p7 U
theorem FiA.stay {V D U : CfgV} {N p7 : Nat} {w w' : World} (h : FiA V D U N p7 w) (hb : Below w.heap.size w w') : FiA V D U N p7 w' :=
  ⟨h.v.stay hb, h.d.stay hb, h.u.stay hb, h.iv.keep hb, h.id.keep hb, h.iu.keep hb⟩
def zPt : PtV := ⟨⟨0, by decide⟩, ⟨⟨0, by decide⟩, ⟨0, by decide⟩⟩, false, none, [], 0⟩
def cf7 (n _ _ : Nat) (V : CfgV) (x y : PtV) (cx cy : Ch) (i k : Nat) (I K : Int) (ok is_ : Bool) : Nat → Value
  | 42 => (.bool ok)
  | 43 => (.int .i64 I)
  | 44 => (.bool ok)
  | 45 => (.bool false)
  | 46 => (.bool false)
  | 47 => (bif (!false) then (.bool is_) else undef)
  | 48 => (bif (!false) then (.int .i64 K) else undef)
  | 49 => (bif (!false) then (.bool is_) else undef)
  | 50 => (bif (!false) then (.bool false) else undef)
  | 51 => (.bool (false || false))
  | 52 => (.bool (false || false))
  | 53 => (bif (!(false || false)) then (.bool ok) else undef)
  | 54 => (bif (!(false || false)) then (.bool ok) else undef)
  | 55 => (bif ((!(false || false)) && ok) then (.agg (cA x)) else undef)
  | 56 => (bif ((!(false || false)) && ok) then (.pointer (some ⟨n, 1, none⟩)) else undef)
  | 57 => (bif ((!(false || false)) && ok) then (.slice V.pa V.ps.length V.pc) else undef)
  | 58 => (bif ((!(false || false)) && ok) then (.int .i64 I) else undef)
  | 59 => (bif ((!(false || false)) && ok) then (.pointer (some (ad V.pa (i * 5)))) else undef)
  | 60 => (bif ((!(false || false)) && ok) then (.agg (cA y)) else undef)
  | 61 => (bif ((!(false || false)) && ok) then (.bool true) else undef)
  | 62 => (bif ((!(false || false)) && ok) then (.bool (!true)) else undef)
  | 63 => (bif (!(false || false)) then (.bool (ok && (!true))) else undef)
  | 64 => (.bool ((false || false) || (ok && (!true))))
  | 65 => (.bool ((false || false) || (ok && (!true))))
  | 66 => (bif (!((false || false) || (ok && (!true)))) then (.bool is_) else undef)
  | 67 => (bif (!((false || false) || (ok && (!true)))) then (.bool is_) else undef)
  | 68 => (bif ((!((false || false) || (ok && (!true)))) && is_) then (.agg (cA5 cx)) else undef)
  | 69 => (bif ((!((false || false) || (ok && (!true)))) && is_) then (.pointer (some ⟨n, 2, none⟩)) else undef)
  | 70 => (bif ((!((false || false) || (ok && (!true)))) && is_) then (.slice V.ca V.cs.length V.cc) else undef)
  | 71 => (bif ((!((false || false) || (ok && (!true)))) && is_) then (.int .i64 K) else undef)
  | 72 => (bif ((!((false || false) || (ok && (!true)))) && is_) then (.pointer (some (ad V.ca (k * 5)))) else undef)
  | 73 => (bif ((!((false || false) || (ok && (!true)))) && is_) then (.agg (cA5 cy)) else undef)
  | 74 => (bif ((!((false || false) || (ok && (!true)))) && is_) then (.bool false) else undef)
  | 75 => (bif (!((false || false) || (ok && (!true)))) then (.bool (is_ && false)) else undef)
  | 76 => (.bool (((false || false) || (ok && (!true))) || (is_ && false)))
  | 77 => (.bool (((false || false) || (ok && (!true))) || (is_ && false)))
  | 78 => (bif (!(((false || false) || (ok && (!true))) || (is_ && false))) then (.bool ok) else undef)
  | 79 => (bif (!(((false || false) || (ok && (!true))) || (is_ && false))) then (.bool (!ok)) else undef)
  | 80 => (bif (!(((false || false) || (ok && (!true))) || (is_ && false))) then (.bool (!ok)) else undef)
  | 81 => (bif ((!(((false || false) || (ok && (!true))) || (is_ && false))) && (!ok)) then (.agg (cA x)) else undef)
  | 82 => (bif ((!(((false || false) || (ok && (!true))) || (is_ && false))) && (!ok)) then (.agg #[.int .i64 0, .int .i64 0, .int .i64 0, .bool false, .slice none 0 0]) else undef)
  | 83 => (bif ((!(((false || false) || (ok && (!true))) || (is_ && false))) && (!ok)) then (.bool true) else undef)
  | 84 => (bif ((!(((false || false) || (ok && (!true))) || (is_ && false))) && (!ok)) then (.bool (!true)) else undef)
  | 85 => (bif (!(((false || false) || (ok && (!true))) || (is_ && false))) then (.bool ((!ok) && (!true))) else undef)
  | 86 => (.bool ((((false || false) || (ok && (!true))) || (is_ && false)) || ((!ok) && (!true))))
  | 87 => (.bool ((((false || false) || (ok && (!true))) || (is_ && false)) || ((!ok) && (!true))))
  | 88 => (bif (!((((false || false) || (ok && (!true))) || (is_ && false)) || ((!ok) && (!true)))) then (.bool is_) else undef)
  | 89 => (bif (!((((false || false) || (ok && (!true))) || (is_ && false)) || ((!ok) && (!true)))) then (.bool (!is_)) else undef)
  | 90 => (bif (!((((false || false) || (ok && (!true))) || (is_ && false)) || ((!ok) && (!true)))) then (.bool (!is_)) else undef)
  | 91 => (bif ((!((((false || false) || (ok && (!true))) || (is_ && false)) || ((!ok) && (!true)))) && (!is_)) then (.agg (cA5 cx)) else undef)
  | 92 => (bif ((!((((false || false) || (ok && (!true))) || (is_ && false)) || ((!ok) && (!true)))) && (!is_)) then (.agg #[.int .i64 0, .int .i64 0, .int .i64 0, .int .i64 0, .int .i64 0]) else undef)
  | 93 => (bif ((!((((false || false) || (ok && (!true))) || (is_ && false)) || ((!ok) && (!true)))) && (!is_)) then (.bool false) else undef)
  | 94 => (bif (!((((false || false) || (ok && (!true))) || (is_ && false)) || ((!ok) && (!true)))) then (.bool ((!is_) && false)) else undef)
  | 95 => (.bool (((((false || false) || (ok && (!true))) || (is_ && false)) || ((!ok) && (!true))) || ((!is_) && false)))
  | _ => undef
def cf7o (n p8 pA : Nat) (_ : CfgV) (_ _ : PtV) (_ _ : Ch) (_ _ : Nat) (I K : Int) (ok is_ : Bool) : Nat → Value
  | 3 => (.pointer (some ⟨n, 0, none⟩))
  | 8 => (.pointer (some ⟨p8, 0, none⟩))
  | 9 => (.bool ok)
  | 10 => (.pointer (some ⟨pA, 0, none⟩))
  | 11 => (.bool is_)
  | 12 => (.int .i64 I)
  | 13 => (.int .i64 K)
  | _ => undef
def cf6 (_ : Nat) (V : CfgV) (id I K : Int) : Nat → Value → World → Prop
  | 36 => fun v _ => v = (.agg #[.slice V.wa V.ws.length V.wc, .slice V.pa V.ps.length V.pc, .slice V.ca V.cs.length V.cc])
  | 37 => fun v _ => v = (.int .i64 id)
  | 38 => fun v _ => v = (.int .i64 I)
  | 39 => fun v _ => v = (.agg #[.slice V.wa V.ws.length V.wc, .slice V.pa V.ps.length V.pc, .slice V.ca V.cs.length V.cc])
  | 40 => fun v _ => v = (.int .i64 id)
  | 41 => fun v _ => v = (.int .i64 K)
  | 12 => fun v _ => v = (.int .i64 I)
  | 13 => fun v _ => v = (.int .i64 K)
  | _ => fun _ _ => True
theorem cf6_stay (n : Nat) (V : CfgV) (id I K : Int) : ∀ d v w1 w2, Below w1.heap.size w1 w2 → cf6 n V id I K d v w1 → cf6 n V id I K d v w2 := by
  intro d v w1 w2 hb h
  unfold cf6 at h ⊢
  split at h <;> first | exact h | exact tE_stay hb h | trivial
def cf9 (_ _ : Nat) (V D U : CfgV) (S : Bool) : Nat → Value → World → Prop
  | 96 => fun v _ => v = (.agg #[.slice U.wa U.ws.length U.wc, .slice U.pa U.ps.length U.pc, .slice U.ca U.cs.length U.cc])
  | 97 => fun v _ => v = (.agg #[.slice D.wa D.ws.length D.wc, .slice D.pa D.ps.length D.pc, .slice D.ca D.cs.length D.cc])
  | 98 => fun v _ => v = (.bool S)
  | 99 => fun v _ => v = (.agg #[.slice V.wa V.ws.length V.wc, .slice V.pa V.ps.length V.pc, .slice V.ca V.cs.length V.cc])
  | 100 => fun v _ => v = (.agg #[.slice D.wa D.ws.length D.wc, .slice D.pa D.ps.length D.pc, .slice D.ca D.cs.length D.cc])
  | 101 => fun v _ => v = (.bool S)
  | 102 => fun v _ => v = (.bool false)
  | 103 => fun v _ => v = (.bool false)
  | 104 => fun v _ => v = (.agg #[.slice U.wa U.ws.length U.wc, .slice U.pa U.ps.length U.pc, .slice U.ca U.cs.length U.cc])
  | 105 => fun v _ => v = (.agg #[.slice V.wa V.ws.length V.wc, .slice V.pa V.ps.length V.pc, .slice V.ca V.cs.length V.cc])
  | 106 => tC (V.cfg)
  | 107 => fun v _ => v = (.bool true)
  | 108 => fun v _ => v = (.bool false)
  | 109 => fun v _ => v = (.bool false)
  | _ => fun _ _ => True
theorem cf9_stay (n p7 : Nat) (V D U : CfgV) (S : Bool) : ∀ d v w1 w2, Below w1.heap.size w1 w2 → cf9 n p7 V D U S d v w1 → cf9 n p7 V D U S d v w2 := by
  intro d v w1 w2 hb h
  unfold cf9 at h ⊢
  split at h <;> first | exact h | exact tE_stay hb h | exact tC_stay hb h | trivial
set_option maxRecDepth 100000 in
set_option maxHeartbeats 8000000 in
theorem configFinds_law (w : World) (V D : CfgV) (id : Int) (h : V.At w) (hb : ∀ x ∈ V.ps, x.img.length ≤ 140737488351232) (k : D.At w) (kb : ∀ x ∈ D.ps, x.img.length ≤ 140737488351232) : Calls Try.prog 14 #[.agg #[.slice V.wa V.ws.length V.wc, .slice V.pa V.ps.length V.pc, .slice V.ca V.cs.length V.cc], .agg #[.slice D.wa D.ws.length D.wc, .slice D.pa D.ps.length D.pc, .slice D.ca D.cs.length D.cc], .int .i64 id] w fun e w' => e = .returned (.bool true) ∧ Below w.heap.size w w' := by
  obtain ⟨w0, hw0⟩ : ∃ w0, w0 = (w.alloc (.cells #[.slice V.wa V.ws.length V.wc, .slice V.pa V.ps.length V.pc, .slice V.ca V.cs.length V.cc] 26)).alloc (.cells #[.slice D.wa D.ws.length D.wc, .slice D.pa D.ps.length D.pc, .slice D.ca D.cs.length D.cc] 26) := ⟨_, rfl⟩
  have B0 : Below w.heap.size w w0 := by rw [hw0]; exact ((Below.refl _ w).alloc (Nat.le_refl _) _).alloc (by simp) _
  have hI := two_box w V D
  rw [← hw0] at hI
  have HI := Lib.hid hI
  have HV := Lib.hid (h.stay B0)
  have HK := Lib.hid (k.stay B0)
  have HB0 := Lib.hid B0
  have HKB := Lib.hid kb
  obtain ⟨g1, hg1⟩ : ∃ g, Hid (g = greatV V) := ⟨_, rfl⟩
  obtain ⟨g2, hg2⟩ : ∃ g, Hid (g = greatV D) := ⟨_, rfl⟩
  have hc := cgreat_calls w0 V HV.out hb
  rw [← hg1.out] at hc
  have HC := Lib.hid hc
  clear h k B0 hI hb kb hc
  obtain ⟨⟨c0, c1, c2⟩, ⟨d0, d1, d2⟩⟩ := HI.out
  go_enter Try.func14, Try.ntmps14
  go_wp2_with fail
  rw [← hw0]
  clear hw0
  refine (HC.out).mono ?_
  rintro e w1 ⟨rfl, hb1⟩
  have HB1 := Lib.hid hb1
  clear c0 c1 c2 d0 d1 d2 HC hb1
  cases g1 with
  | true =>
    go_wp2_with fail
    go_ret
    exact ⟨rfl, HB0.out.trans (HB1.out.mono HB0.out.size)⟩
  | false =>
    obtain ⟨d0, d1, d2⟩ := HI.out.2.keep HB1.out
    have hc := cgreat_calls w1 D (HK.out.stay HB1.out) HKB.out
    rw [← hg2.out] at hc
    have HC := Lib.hid hc
    clear hc
    go_wp2_with fail
    refine (HC.out).mono ?_
    rintro e w2 ⟨rfl, hb2⟩
    have HB2 := Lib.hid (HB1.out.trans (hb2.mono HB1.out.size))
    clear d0 d1 d2 hb2 HC HB1
    cases g2 with
    | true =>
      go_wp2_with fail
      go_ret
      exact ⟨rfl, HB0.out.trans (HB2.out.mono HB0.out.size)⟩
    | false =>
      have HSM := Lib.hid (small_of hg1.out.symm)
      have HCP := Lib.hid (copied_calls w2 V (HV.out.stay HB2.out) HSM.out)
      obtain ⟨c0, c1, c2⟩ := HI.out.1.keep HB2.out
      go_wp2_with fail
      refine (HCP.out).mono ?_
      rintro e w3 ⟨U, rfl, hU, hO, hb3⟩
      obtain ⟨w4, hw4⟩ : ∃ w4, w4 = w3.alloc (.cells #[.slice U.wa U.ws.length U.wc, .slice U.pa U.ps.length U.pc, .slice U.ca U.cs.length U.cc] 26) := ⟨_, rfl⟩
      obtain ⟨p7, hp7⟩ : ∃ p, p = w3.heap.size := ⟨_, rfl⟩
      have hb34 : Below w3.heap.size w3 w4 := by rw [hw4]; exact (Below.refl _ _).alloc (Nat.le_refl _) _
      have hUB : InBox w4 p7 U := by rw [hw4, hp7]; exact inBox_new w3 U _
      have HB4 := Lib.hid (HB2.out.trans ((hb3.trans (hb34.mono hb3.size)).mono HB2.out.size))
      have HF : Hid (FiA V D U w.heap.size p7 w4) := ⟨HV.out.stay HB4.out, HK.out.stay HB4.out, hO.at.stay hb34, HI.out.1.keep HB4.out, HI.out.2.keep HB4.out, hUB⟩
      have HUC := Lib.hid hU
      have HSU := Lib.hid (small_cfg hU HSM.out)
      clear hU hO hb3 hb34 hUB HCP c0 c1 c2
      go_upto_region 4 with fail
      rw [← hw4, ← hp7]
      clear hw4 hp7
      obtain ⟨g0, g1', g2'⟩ := HF.out.iu
      have HPT := Lib.hid (part_get w4 U HF.out.u HSU.out id)
      obtain ⟨ok, hok⟩ : ∃ ok, Hid (ok = hasP V.ps id) := ⟨_, rfl⟩
      obtain ⟨is_, his⟩ : ∃ is_, Hid (is_ = hasC V.cs id) := ⟨_, rfl⟩
      have HOU : Hid (hasP U.ps id = ok) := by rw [Hid, hok.out]; exact hasP_cfg HUC.out id
      have hpt := HPT.out
      rw [HOU.out] at hpt
      have HPT2 := Lib.hid hpt
      clear hpt HPT
      go_wp2_with fail
      refine (HPT2.out).mono ?_
      rintro e w5 ⟨x, rfl, hx, hown, hb5⟩
      obtain ⟨w6, hw6⟩ : ∃ w6, w6 = w5.alloc (.cells #[.int .i64 x.id.1, .int .i64 x.reg.base.1, .int .i64 x.reg.size.1, .bool x.keep, .slice x.a x.img.length x.c] 43) := ⟨_, rfl⟩
      obtain ⟨p8, hp8⟩ : ∃ p, p = w5.heap.size := ⟨_, rfl⟩
      have hb56 : Below w5.heap.size w5 w6 := by rw [hw6]; exact (Below.refl _ _).alloc (Nat.le_refl _) _
      have hX8 : w6.heap[p8]? = some (.cells (cA x) 43 (0, 0)) := by rw [hw6, hp8]; exact heap_alloc_new _ _
      have HX6 := Lib.hid (And.intro hX8 (hown.stay hb56))
      have HX : Hid (x.pt = getP V.ps id) := hx.trans (getP_cfg HUC.out id)
      have HB6 := Lib.hid (hb5.trans (hb56.mono hb5.size))
      clear hx hown hb5 hb56 hX8 HPT2 g0 g1' g2'
      go_upto_region 5 with fail
      rw [← hw6, ← hp8]
      clear hw6 hp8
      obtain ⟨g0, g1', g2'⟩ := HF.out.iu.keep HB6.out
      obtain ⟨cx, hcx⟩ : ∃ cx, Hid (cx = getC V.cs id) := ⟨_, rfl⟩
      have hcs : U.cs = V.cs := congrArg Cfg.chans HUC.out
      have hch := chan_get w6 U (HF.out.u.stay HB6.out) id
      rw [show getC U.cs id = cx by rw [hcx.out, hcs], show hasC U.cs id = is_ by rw [his.out, hcs]] at hch
      have HCH := Lib.hid hch
      clear hch hcs
      go_wp2_with fail
      refine (HCH.out).mono ?_
      rintro e w7 ⟨rfl, hb7⟩
      obtain ⟨w8, hw8⟩ : ∃ w8, w8 = w7.alloc (.cells (cA5 cx) 54) := ⟨_, rfl⟩
      obtain ⟨pA, hpA⟩ : ∃ p, p = w7.heap.size := ⟨_, rfl⟩
      have hb78 : Below w7.heap.size w7 w8 := by rw [hw8]; exact (Below.refl _ _).alloc (Nat.le_refl _) _
      have hXA : w8.heap[pA]? = some (.cells (cA5 cx) 54 (0, 0)) := by rw [hw8, hpA]; exact heap_alloc_new _ _
      have hb68 := hb7.trans (hb78.mono hb7.size)
      have HX8 := Lib.hid (And.intro (blk_stay HX6.out.1 hb68) (And.intro (HX6.out.2.stay hb68) hXA))
      have HB8 := Lib.hid (HB6.out.trans (hb68.mono HB6.out.size))
      clear hb7 hb78 hb68 hXA HCH HX6 HB6 g0 g1' g2'
      go_upto_region 6 with fail
      rw [← hw8, ← hpA]
      clear hw8 hpA
      obtain ⟨I, hI⟩ : ∃ I, Hid (I = findI (fun x : PtV => decide (x.id.1 = id)) V.ps) := ⟨_, rfl⟩
      obtain ⟨K, hK⟩ : ∃ I, Hid (I = findI (fun x : Ch => decide (x.id.1 = id)) V.cs) := ⟨_, rfl⟩
      have hV8 := (HF.out.stay HB8.out).v
      obtain ⟨c0, c1, c2⟩ := (HF.out.stay HB8.out).iv
      have HRP : Hid (∀ q : After w8, Calls Try.prog 53 #[.agg #[.slice V.wa V.ws.length V.wc, .slice V.pa V.ps.length V.pc, .slice V.ca V.cs.length V.cc], .int .i64 id] q.to fun e w' => e = .returned (.int .i64 I) ∧ Below q.to.heap.size q.to w') := fun q => by rw [hI.out]; exact refpart_calls q.to V (hV8.stay q.bel) id
      have HRC : Hid (∀ q : After w8, Calls Try.prog 54 #[.agg #[.slice V.wa V.ws.length V.wc, .slice V.pa V.ps.length V.pc, .slice V.ca V.cs.length V.cc], .int .i64 id] q.to fun e w' => e = .returned (.int .i64 K) ∧ Below q.to.heap.size q.to w') := fun q => by rw [hK.out]; exact refchan_calls q.to V (hV8.stay q.bel) id
      clear hV8
      refine wp_region_tyg (cf6 w.heap.size V id I K) (by kernel_rfl) (by kernel_rfl) (cf6_stay w.heap.size V id I K) ?_ ?_
      · refine opsAll_cons ?_ (opsAll_cons ?_ (opsAll_cons ?_ (opsAll_cons ?_ (opsAll_cons ?_ (opsAll_cons ?_ (opsAll_cons ?_ (opsAll_cons ?_ opsAll_nil)))))))
        all_goals intro a wx hk
        · exact .inl ⟨wanted_free rfl, gp_load (.tmp 3) rfl (show a.eval (.tmp 3) = (.pointer (some ⟨w.heap.size, 0, none⟩)) from ((hk.old 3 (by kernel_rfl)).trans rfl)) ((fun (q : After _) => load3 (fun w => by kernel_rfl) (fun w => by kernel_rfl) (keep q.bel c0) (keep q.bel c1) (keep q.bel c2)) ⟨wx, hk.below⟩) ⟨Below.refl _ _, rfl⟩⟩
        · exact .inl ⟨wanted_free rfl, gp_move (.tmp 2) rfl ⟨Below.refl _ _, (hk.old 2 (by kernel_rfl)).trans rfl⟩⟩
        · exact .inl ⟨wanted_free rfl, gp_call rfl (hk.fn _) #[.agg #[.slice V.wa V.ws.length V.wc, .slice V.pa V.ps.length V.pc, .slice V.ca V.cs.length V.cc], .int .i64 id] (fun w => by kernel_rfl) (by simp only [List.map_toArray, List.map_cons, List.map_nil, (show a.eval (.tmp 36) = (.agg #[.slice V.wa V.ws.length V.wc, .slice V.pa V.ps.length V.pc, .slice V.ca V.cs.length V.cc]) from hk.slot 36 (by kernel_rfl)), (show a.eval (.tmp 37) = (.int .i64 id) from hk.slot 37 (by kernel_rfl))]) (((fun (q : After _) => HRP.out q) ⟨wx, hk.below⟩).mono fun e w' ⟨he, hb⟩ => ⟨_, he, hb, rfl⟩)⟩
        · exact .inl ⟨wanted_free rfl, gp_load (.tmp 3) rfl (show a.eval (.tmp 3) = (.pointer (some ⟨w.heap.size, 0, none⟩)) from ((hk.old 3 (by kernel_rfl)).trans rfl)) ((fun (q : After _) => load3 (fun w => by kernel_rfl) (fun w => by kernel_rfl) (keep q.bel c0) (keep q.bel c1) (keep q.bel c2)) ⟨wx, hk.below⟩) ⟨Below.refl _ _, rfl⟩⟩
        · exact .inl ⟨wanted_free rfl, gp_move (.tmp 2) rfl ⟨Below.refl _ _, (hk.old 2 (by kernel_rfl)).trans rfl⟩⟩
        · exact .inl ⟨wanted_free rfl, gp_call rfl (hk.fn _) #[.agg #[.slice V.wa V.ws.length V.wc, .slice V.pa V.ps.length V.pc, .slice V.ca V.cs.length V.cc], .int .i64 id] (fun w => by kernel_rfl) (by simp only [List.map_toArray, List.map_cons, List.map_nil, (show a.eval (.tmp 39) = (.agg #[.slice V.wa V.ws.length V.wc, .slice V.pa V.ps.length V.pc, .slice V.ca V.cs.length V.cc]) from hk.slot 39 (by kernel_rfl)), (show a.eval (.tmp 40) = (.int .i64 id) from hk.slot 40 (by kernel_rfl))]) (((fun (q : After _) => HRC.out q) ⟨wx, hk.below⟩).mono fun e w' ⟨he, hb⟩ => ⟨_, he, hb, rfl⟩)⟩
        · exact .inl ⟨wanted_free rfl, gp_assign (.tmp 38) rfl ⟨Below.refl _ _, hk.slot 38 (by kernel_rfl)⟩⟩
        · exact .inl ⟨wanted_free rfl, gp_assign (.tmp 41) rfl ⟨Below.refl _ _, hk.slot 41 (by kernel_rfl)⟩⟩
      intro a w9 hbz hsame hall
      have he := act_same hsame [36, 37, 38, 39, 40, 41, 12, 13] (by kernel_rfl)
      simp only [List.foldl_cons, List.foldl_nil] at he
      rw [show a.eval (.tmp 12) = (.int .i64 I) from hall 12 (by kernel_rfl), show a.eval (.tmp 13) = (.int .i64 K) from hall 13 (by kernel_rfl)] at he
      generalize a.eval (.tmp 36) = y36 at he
      generalize a.eval (.tmp 37) = y37 at he
      generalize a.eval (.tmp 38) = y38 at he
      generalize a.eval (.tmp 39) = y39 at he
      generalize a.eval (.tmp 40) = y40 at he
      generalize a.eval (.tmp 41) = y41 at he
      simp only [put_lit] at he
      dsimp only [List.set_cons_zero, List.set_cons_succ] at he
      subst he
      clear hsame hall
      have HB9 := Lib.hid (HB8.out.trans (hbz.mono HB8.out.size))
      have HX9 := Lib.hid (And.intro (blk_stay HX8.out.1 hbz) (And.intro (HX8.out.2.1.stay hbz) (blk_stay HX8.out.2.2 hbz)))
      clear hbz HRP HRC c0 c1 c2 HX8 HB8
      have HF9 := Lib.hid (HF.out.stay HB9.out)
      -- what was found
      have HIO : Hid (decide ((0 : Int) ≤ I) = ok) := by rw [Hid, hI.out, hok.out, findI_any]; rfl
      have HKO : Hid (decide ((0 : Int) ≤ K) = is_) := by rw [Hid, hK.out, his.out, findI_any]; rfl
      obtain ⟨i, y, HPF⟩ : ∃ (i : Nat) (y : PtV), Hid ((ok = true → ∃ h : i < V.ps.length, I = i ∧ y = V.ps[i] ∧ x.pt = y.pt) ∧ (ok = false → x.pt = pt0)) := by
        cases e : ok with
        | true =>
          obtain ⟨i, hi, ei⟩ := findI_some _ _ (show V.ps.any (fun x : PtV => decide (x.id.1 = id)) = true by rw [← e, hok.out]; rfl)
          exact ⟨i, V.ps[i], fun _ => ⟨hi, by rw [hI.out]; exact ei, rfl, by rw [HX.out]; exact getP_i hi ei⟩, fun h => by simp at h⟩
        | false => exact ⟨0, zPt, fun h => by simp at h, fun _ => by rw [HX.out]; exact getP_none (by rw [← hok.out, e])⟩
      obtain ⟨k, cy, HCF⟩ : ∃ (k : Nat) (cy : Ch), Hid ((is_ = true → ∃ h : k < V.cs.length, K = k ∧ cy = V.cs[k] ∧ cx = cy) ∧ (is_ = false → cx = ch0)) := by
        cases e : is_ with
        | true =>
          obtain ⟨i, hi, ei⟩ := findI_some _ _ (show V.cs.any (fun x : Ch => decide (x.id.1 = id)) = true by rw [← e, his.out]; rfl)
          exact ⟨i, V.cs[i], fun _ => ⟨hi, by rw [hK.out]; exact ei, rfl, by rw [hcx.out]; exact getC_i hi ei⟩, fun h => by simp at h⟩
        | false => exact ⟨0, ch0, fun h => by simp at h, fun _ => by rw [hcx.out]; exact getC_none (by rw [← his.out, e])⟩
      have HIP : Hid (ok = true → ∀ w, (Instr.indexAt 23 (.slice V.pa V.ps.length V.pc) (.int .i64 I)).run Try.prog w = .ok (.pointer (some (ad V.pa (i * 5)))) w) := fun e => by
        obtain ⟨hi, ei, _⟩ := HPF.out.1 e
        rw [ei]; exact HF9.out.v.pts.index etP i hi
      have HIC : Hid (is_ = true → ∀ w, (Instr.indexAt 24 (.slice V.ca V.cs.length V.cc) (.int .i64 K)).run Try.prog w = .ok (.pointer (some (ad V.ca (k * 5)))) w) := fun e => by
        obtain ⟨hi, ei, _⟩ := HCF.out.1 e
        rw [ei]; exact HF9.out.v.chs.index etC k hi
      have HLP : Hid (ok = true → ∀ q : After w9, (Instr.loadAt 43 (.pointer (some (ad V.pa (i * 5))))).run Try.prog q.to = .ok (.agg (cA y)) q.to) := fun e q => by
        obtain ⟨hi, _, ey, _⟩ := HPF.out.1 e
        rw [ey]; exact load_pt HF9.out.v.pts q.bel i hi
      have HLC : Hid (is_ = true → ∀ q : After w9, (Instr.loadAt 54 (.pointer (some (ad V.ca (k * 5))))).run Try.prog q.to = .ok (.agg (cA5 cy)) q.to) := fun e q => by
        obtain ⟨hi, _, ey, _⟩ := HCF.out.1 e
        rw [ey]; exact load_ch HF9.out.v.chs q.bel k hi
      have HSP1 : Hid (ok = true → ∀ q : After w9, Calls Try.prog 55 #[.agg (cA x), .agg (cA y)] q.to fun e w' => e = .returned (.bool true) ∧ Below q.to.heap.size q.to w') := fun e q => by
        obtain ⟨hi, _, ey, exy⟩ := HPF.out.1 e
        have := samepart_calls q.to x y (HX9.out.2.1.isRow.stay q.bel) ((HF9.out.v.img y (by rw [ey]; exact List.getElem_mem hi)).stay q.bel)
        rwa [decide_eq_true exy] at this
      have HSP2 : Hid (ok = false → ∀ q : After w9, Calls Try.prog 55 #[.agg (cA x), .agg #[.int .i64 0, .int .i64 0, .int .i64 0, .bool false, .slice none 0 0]] q.to fun e w' => e = .returned (.bool true) ∧ Below q.to.heap.size q.to w') := fun e q => by
        have := samepart_calls q.to x zPt (HX9.out.2.1.isRow.stay q.bel) (Row.nil_ _)
        rwa [decide_eq_true (show x.pt = zPt.pt from HPF.out.2 e)] at this
      have HN1 : Hid (is_ = true → ∀ (x y : Operand) (w : World), (do eqGuard .neq 54 x y (.agg (cA5 cx)) (.agg (cA5 cy)); binOp .neq 54 (.agg (cA5 cx)) (.agg (cA5 cy)) : Sem Value).run Try.prog w = .ok (.bool false) w) := fun e x y w => by
        obtain ⟨_, _, _, exy⟩ := HCF.out.1 e
        rw [← exy]; exact neq_ch cx x y w
      have HN2 : Hid (is_ = false → ∀ (x y : Operand) (w : World), (do eqGuard .neq 54 x y (.agg (cA5 cx)) (.agg #[.int .i64 0, .int .i64 0, .int .i64 0, .int .i64 0, .int .i64 0]); binOp .neq 54 (.agg (cA5 cx)) (.agg #[.int .i64 0, .int .i64 0, .int .i64 0, .int .i64 0, .int .i64 0]) : Sem Value).run Try.prog w = .ok (.bool false) w) := fun e x y w => by
        rw [HCF.out.2 e]; exact neq_ch ch0 x y w
      obtain ⟨c0, c1, c2⟩ := HF9.out.iv
      have e0 := cells_of HX9.out.1 0 rfl
      have e1 := cells_of HX9.out.1 1 rfl
      have e2 := cells_of HX9.out.1 2 rfl
      have e3 := cells_of HX9.out.1 3 rfl
      have e4 := cells_of HX9.out.1 4 rfl
      have f0 := cells_of HX9.out.2.2 0 rfl
      have f1 := cells_of HX9.out.2.2 1 rfl
      have f2 := cells_of HX9.out.2.2 2 rfl
      have f3 := cells_of HX9.out.2.2 3 rfl
      have f4 := cells_of HX9.out.2.2 4 rfl
      go_upto_region 7 with fail
      refine wp_region_vals (cf7 w.heap.size p8 pA V x y cx cy i k I K ok is_) (cf7o w.heap.size p8 pA V x y cx cy i k I K ok is_) [3, 8, 9, 10, 11, 12, 13] (by kernel_rfl) (by kernel_rfl) (by kernel_rfl) ⟨rfl, rfl, rfl, rfl, rfl, rfl, rfl, trivial⟩ ?_ ?_
      · refine opsAll_cons ?_ (opsAll_cons ?_ (opsAll_cons ?_ (opsAll_cons ?_ (opsAll_cons ?_ (opsAll_cons ?_ (opsAll_cons ?_ (opsAll_cons ?_ (opsAll_cons ?_ (opsAll_cons ?_ (opsAll_cons ?_ (opsAll_cons ?_ (opsAll_cons ?_ (opsAll_cons ?_ (opsAll_cons ?_ (opsAll_cons ?_ (opsAll_cons ?_ (opsAll_cons ?_ (opsAll_cons ?_ (opsAll_cons ?_ (opsAll_cons ?_ (opsAll_cons ?_ (opsAll_cons ?_ (opsAll_cons ?_ (opsAll_cons ?_ (opsAll_cons ?_ (opsAll_cons ?_ (opsAll_cons ?_ (opsAll_cons ?_ (opsAll_cons ?_ (opsAll_cons ?_ (opsAll_cons ?_ (opsAll_cons ?_ (opsAll_cons ?_ (opsAll_cons ?_ (opsAll_cons ?_ (opsAll_cons ?_ (opsAll_cons ?_ (opsAll_cons ?_ (opsAll_cons ?_ (opsAll_cons ?_ (opsAll_cons ?_ (opsAll_cons ?_ (opsAll_cons ?_ (opsAll_cons ?_ (opsAll_cons ?_ (opsAll_cons ?_ (opsAll_cons ?_ (opsAll_cons ?_ (opsAll_cons ?_ (opsAll_cons ?_ (opsAll_cons ?_ (opsAll_cons ?_ (opsAll_cons ?_ opsAll_nil)))))))))))))))))))))))))))))))))))))))))))))))))))))
        all_goals intro a hk
        · -- slot 42
          exact .inl ⟨wanted_free rfl, q_move (.tmp 9) rfl (show a.eval (.tmp 9) = (.bool ok) from hk.old 9 (by kernel_rfl) (by kernel_rfl))⟩
        · -- slot 43
          exact .inl ⟨wanted_free rfl, q_move (.tmp 12) rfl (show a.eval (.tmp 12) = (.int .i64 I) from hk.old 12 (by kernel_rfl) (by kernel_rfl))⟩
        · -- slot 44
          exact .inl ⟨wanted_free rfl, q_bin rfl (show a.eval (.tmp 43) = (.int .i64 I) from hk.slot 43 (by kernel_rfl)) rfl (v := .bool (decide ((0 : Int) ≤ I))) (fun w => by kernel_rfl) (congrArg Value.bool (HIO.out))⟩
        · -- slot 45
          exact .inl ⟨wanted_free rfl, q_bin rfl (show a.eval (.tmp 42) = (.bool ok) from hk.slot 42 (by kernel_rfl)) (show a.eval (.tmp 44) = (.bool ok) from hk.slot 44 (by kernel_rfl)) (v := (.bool false)) (fun w => by cases ok <;> go_simp) rfl⟩
        · -- slot 46
          exact .inl ⟨wanted_free rfl, q_move (.tmp 45) rfl (show a.eval (.tmp 45) = (.bool false) from hk.slot 45 (by kernel_rfl))⟩
        · -- slot 47
          exact .inl ⟨wanted_by 46 false (by kernel_rfl) (show a.eval (.tmp 46) = (.bool false) from hk.slot 46 (by kernel_rfl)), q_move (.tmp 11) rfl (show a.eval (.tmp 11) = (.bool is_) from hk.old 11 (by kernel_rfl) (by kernel_rfl))⟩
        · -- slot 48
          exact .inl ⟨wanted_by 46 false (by kernel_rfl) (show a.eval (.tmp 46) = (.bool false) from hk.slot 46 (by kernel_rfl)), q_move (.tmp 13) rfl (show a.eval (.tmp 13) = (.int .i64 K) from hk.old 13 (by kernel_rfl) (by kernel_rfl))⟩
        · -- slot 49
          exact .inl ⟨wanted_by 46 false (by kernel_rfl) (show a.eval (.tmp 46) = (.bool false) from hk.slot 46 (by kernel_rfl)), q_bin rfl (show a.eval (.tmp 48) = (.int .i64 K) from hk.slot 48 (by kernel_rfl)) rfl (v := .bool (decide ((0 : Int) ≤ K))) (fun w => by kernel_rfl) (congrArg Value.bool (HKO.out))⟩
        · -- slot 50
          exact .inl ⟨wanted_by 46 false (by kernel_rfl) (show a.eval (.tmp 46) = (.bool false) from hk.slot 46 (by kernel_rfl)), q_bin rfl (show a.eval (.tmp 47) = (.bool is_) from hk.slot 47 (by kernel_rfl)) (show a.eval (.tmp 49) = (.bool is_) from hk.slot 49 (by kernel_rfl)) (v := (.bool false)) (fun w => by cases is_ <;> go_simp) rfl⟩
        · -- slot 51
          exact .inl ⟨wanted_free rfl, q_pick rfl false (show a.eval (.tmp 46) = (.bool false) from hk.slot 46 (by kernel_rfl)) (show a.eval (.tmp 50) = (.bool false) from hk.slot 50 (by kernel_rfl))⟩
        · -- slot 52
          exact .inl ⟨wanted_free rfl, q_move (.tmp 51) rfl (show a.eval (.tmp 51) = (.bool (false || false)) from hk.slot 51 (by kernel_rfl))⟩
        · -- slot 53
          exact .inl ⟨wanted_by 52 false (by kernel_rfl) (show a.eval (.tmp 52) = (.bool (false || false)) from hk.slot 52 (by kernel_rfl)), q_move (.tmp 9) rfl (show a.eval (.tmp 9) = (.bool ok) from hk.old 9 (by kernel_rfl) (by kernel_rfl))⟩
        · -- slot 54
          exact .inl ⟨wanted_by 52 false (by kernel_rfl) (show a.eval (.tmp 52) = (.bool (false || false)) from hk.slot 52 (by kernel_rfl)), q_move (.tmp 53) rfl (show a.eval (.tmp 53) = (.bool ok) from hk.slot 53 (by kernel_rfl))⟩
        · -- slot 55
          cases ok with
          | true =>
            exact .inl ⟨wanted_by 54 true (by kernel_rfl) (show a.eval (.tmp 54) = (.bool true) from hk.slot 54 (by kernel_rfl)), q_load (.tmp 8) rfl (show a.eval (.tmp 8) = (.pointer (some ⟨p8, 0, none⟩)) from hk.old 8 (by kernel_rfl) (by kernel_rfl)) (v := (.agg (cA x))) (fun q => load5 (fun w => by kernel_rfl) (fun w => by kernel_rfl) (keep q.bel e0) (keep q.bel e1) (keep q.bel e2) (keep q.bel e3) (keep q.bel e4)) rfl⟩
          | false =>
            exact .inr ⟨unwanted_by 54 true (by kernel_rfl) (show a.eval (.tmp 54) = (.bool false) from hk.slot 54 (by kernel_rfl)), rfl⟩
        · -- slot 56
          cases ok with
          | true =>
            exact .inl ⟨wanted_by 54 true (by kernel_rfl) (show a.eval (.tmp 54) = (.bool true) from hk.slot 54 (by kernel_rfl)), q_field (.tmp 3) rfl (show a.eval (.tmp 3) = (.pointer (some ⟨w.heap.size, 0, none⟩)) from hk.old 3 (by kernel_rfl) (by kernel_rfl)) (v := (.pointer (some ⟨w.heap.size, 1, none⟩))) (fun w => by kernel_rfl) rfl⟩
          | false =>
            exact .inr ⟨unwanted_by 54 true (by kernel_rfl) (show a.eval (.tmp 54) = (.bool false) from hk.slot 54 (by kernel_rfl)), rfl⟩
        · -- slot 57
          cases ok with
          | true =>
            exact .inl ⟨wanted_by 54 true (by kernel_rfl) (show a.eval (.tmp 54) = (.bool true) from hk.slot 54 (by kernel_rfl)), q_load (.tmp 56) rfl (show a.eval (.tmp 56) = (.pointer (some ⟨w.heap.size, 1, none⟩)) from hk.slot 56 (by kernel_rfl)) (v := (.slice V.pa V.ps.length V.pc)) (fun q => load_at (fun w => by kernel_rfl) (keep q.bel c1)) rfl⟩
          | false =>
            exact .inr ⟨unwanted_by 54 true (by kernel_rfl) (show a.eval (.tmp 54) = (.bool false) from hk.slot 54 (by kernel_rfl)), rfl⟩
        · -- slot 58
          cases ok with
          | true =>
            exact .inl ⟨wanted_by 54 true (by kernel_rfl) (show a.eval (.tmp 54) = (.bool true) from hk.slot 54 (by kernel_rfl)), q_move (.tmp 12) rfl (show a.eval (.tmp 12) = (.int .i64 I) from hk.old 12 (by kernel_rfl) (by kernel_rfl))⟩
          | false =>
            exact .inr ⟨unwanted_by 54 true (by kernel_rfl) (show a.eval (.tmp 54) = (.bool false) from hk.slot 54 (by kernel_rfl)), rfl⟩
        · -- slot 59
          cases ok with
          | true =>
            exact .inl ⟨wanted_by 54 true (by kernel_rfl) (show a.eval (.tmp 54) = (.bool true) from hk.slot 54 (by kernel_rfl)), q_index (.tmp 57) (.tmp 58) rfl (show a.eval (.tmp 57) = (.slice V.pa V.ps.length V.pc) from hk.slot 57 (by kernel_rfl)) (show a.eval (.tmp 58) = (.int .i64 I) from hk.slot 58 (by kernel_rfl)) (v := (.pointer (some (ad V.pa (i * 5))))) (fun w => (HIP.out rfl) w) rfl⟩
          | false =>
            exact .inr ⟨unwanted_by 54 true (by kernel_rfl) (show a.eval (.tmp 54) = (.bool false) from hk.slot 54 (by kernel_rfl)), rfl⟩
        · -- slot 60
          cases ok with
          | true =>
            exact .inl ⟨wanted_by 54 true (by kernel_rfl) (show a.eval (.tmp 54) = (.bool true) from hk.slot 54 (by kernel_rfl)), q_load (.tmp 59) rfl (show a.eval (.tmp 59) = (.pointer (some (ad V.pa (i * 5)))) from hk.slot 59 (by kernel_rfl)) (v := (.agg (cA y))) (fun q => HLP.out rfl q) rfl⟩
          | false =>
            exact .inr ⟨unwanted_by 54 true (by kernel_rfl) (show a.eval (.tmp 54) = (.bool false) from hk.slot 54 (by kernel_rfl)), rfl⟩
        · -- slot 61
          cases ok with
          | true =>
            exact .inl ⟨wanted_by 54 true (by kernel_rfl) (show a.eval (.tmp 54) = (.bool true) from hk.slot 54 (by kernel_rfl)), q_call rfl rfl #[(.agg (cA x)), (.agg (cA y))] (fun w => by kernel_rfl) (by simp only [List.map_toArray, List.map_cons, List.map_nil, (show a.eval (.tmp 55) = (.agg (cA x)) from hk.slot 55 (by kernel_rfl)), (show a.eval (.tmp 60) = (.agg (cA y)) from hk.slot 60 (by kernel_rfl))]) (v := (.bool true)) (fun q => HSP1.out rfl q) rfl⟩
          | false =>
            exact .inr ⟨unwanted_by 54 true (by kernel_rfl) (show a.eval (.tmp 54) = (.bool false) from hk.slot 54 (by kernel_rfl)), rfl⟩
        · -- slot 62
          cases ok with
          | true =>
            exact .inl ⟨wanted_by 54 true (by kernel_rfl) (show a.eval (.tmp 54) = (.bool true) from hk.slot 54 (by kernel_rfl)), q_not rfl _ (show a.eval (.tmp 61) = (.bool true) from hk.slot 61 (by kernel_rfl)) rfl⟩
          | false =>
            exact .inr ⟨unwanted_by 54 true (by kernel_rfl) (show a.eval (.tmp 54) = (.bool false) from hk.slot 54 (by kernel_rfl)), rfl⟩
        · -- slot 63
          cases ok with
          | true =>
            exact .inl ⟨wanted_by 52 false (by kernel_rfl) (show a.eval (.tmp 52) = (.bool (false || false)) from hk.slot 52 (by kernel_rfl)), q_pick rfl true (show a.eval (.tmp 54) = (.bool true) from hk.slot 54 (by kernel_rfl)) (show a.eval (.tmp 62) = (.bool (!true)) from hk.slot 62 (by kernel_rfl))⟩
          | false =>
            exact .inl ⟨wanted_by 52 false (by kernel_rfl) (show a.eval (.tmp 52) = (.bool (false || false)) from hk.slot 52 (by kernel_rfl)), q_pick rfl false (show a.eval (.tmp 54) = (.bool false) from hk.slot 54 (by kernel_rfl)) rfl⟩
        · -- slot 64
          exact .inl ⟨wanted_free rfl, q_pick rfl false (show a.eval (.tmp 52) = (.bool (false || false)) from hk.slot 52 (by kernel_rfl)) (show a.eval (.tmp 63) = (.bool (ok && (!true))) from hk.slot 63 (by kernel_rfl))⟩
        · -- slot 65
          exact .inl ⟨wanted_free rfl, q_move (.tmp 64) rfl (show a.eval (.tmp 64) = (.bool ((false || false) || (ok && (!true)))) from hk.slot 64 (by kernel_rfl))⟩
        · -- slot 66
          cases ok with
          | true =>
            exact .inl ⟨wanted_by 65 false (by kernel_rfl) (show a.eval (.tmp 65) = (.bool ((false || false) || (true && (!true)))) from hk.slot 65 (by kernel_rfl)), q_move (.tmp 11) rfl (show a.eval (.tmp 11) = (.bool is_) from hk.old 11 (by kernel_rfl) (by kernel_rfl))⟩
          | false =>
            exact .inl ⟨wanted_by 65 false (by kernel_rfl) (show a.eval (.tmp 65) = (.bool ((false || false) || (false && (!true)))) from hk.slot 65 (by kernel_rfl)), q_move (.tmp 11) rfl (show a.eval (.tmp 11) = (.bool is_) from hk.old 11 (by kernel_rfl) (by kernel_rfl))⟩
        · -- slot 67
          cases ok with
          | true =>
            exact .inl ⟨wanted_by 65 false (by kernel_rfl) (show a.eval (.tmp 65) = (.bool ((false || false) || (true && (!true)))) from hk.slot 65 (by kernel_rfl)), q_move (.tmp 66) rfl (show a.eval (.tmp 66) = (.bool is_) from hk.slot 66 (by kernel_rfl))⟩
          | false =>
            exact .inl ⟨wanted_by 65 false (by kernel_rfl) (show a.eval (.tmp 65) = (.bool ((false || false) || (false && (!true)))) from hk.slot 65 (by kernel_rfl)), q_move (.tmp 66) rfl (show a.eval (.tmp 66) = (.bool is_) from hk.slot 66 (by kernel_rfl))⟩
        · -- slot 68
          cases ok with
          | true =>
            cases is_ with
            | true =>
              exact .inl ⟨wanted_by 67 true (by kernel_rfl) (show a.eval (.tmp 67) = (.bool true) from hk.slot 67 (by kernel_rfl)), q_load (.tmp 10) rfl (show a.eval (.tmp 10) = (.pointer (some ⟨pA, 0, none⟩)) from hk.old 10 (by kernel_rfl) (by kernel_rfl)) (v := (.agg (cA5 cx))) (fun q => load5 (fun w => by kernel_rfl) (fun w => by kernel_rfl) (keep q.bel f0) (keep q.bel f1) (keep q.bel f2) (keep q.bel f3) (keep q.bel f4)) rfl⟩
            | false =>
              exact .inr ⟨unwanted_by 67 true (by kernel_rfl) (show a.eval (.tmp 67) = (.bool false) from hk.slot 67 (by kernel_rfl)), rfl⟩
          | false =>
            cases is_ with
            | true =>
              exact .inl ⟨wanted_by 67 true (by kernel_rfl) (show a.eval (.tmp 67) = (.bool true) from hk.slot 67 (by kernel_rfl)), q_load (.tmp 10) rfl (show a.eval (.tmp 10) = (.pointer (some ⟨pA, 0, none⟩)) from hk.old 10 (by kernel_rfl) (by kernel_rfl)) (v := (.agg (cA5 cx))) (fun q => load5 (fun w => by kernel_rfl) (fun w => by kernel_rfl) (keep q.bel f0) (keep q.bel f1) (keep q.bel f2) (keep q.bel f3) (keep q.bel f4)) rfl⟩
            | false =>
              exact .inr ⟨unwanted_by 67 true (by kernel_rfl) (show a.eval (.tmp 67) = (.bool false) from hk.slot 67 (by kernel_rfl)), rfl⟩
        · -- slot 69
          cases ok with
          | true =>
            cases is_ with
            | true =>
              exact .inl ⟨wanted_by 67 true (by kernel_rfl) (show a.eval (.tmp 67) = (.bool true) from hk.slot 67 (by kernel_rfl)), q_field (.tmp 3) rfl (show a.eval (.tmp 3) = (.pointer (some ⟨w.heap.size, 0, none⟩)) from hk.old 3 (by kernel_rfl) (by kernel_rfl)) (v := (.pointer (some ⟨w.heap.size, 2, none⟩))) (fun w => by kernel_rfl) rfl⟩
            | false =>
              exact .inr ⟨unwanted_by 67 true (by kernel_rfl) (show a.eval (.tmp 67) = (.bool false) from hk.slot 67 (by kernel_rfl)), rfl⟩
          | false =>
            cases is_ with
            | true =>
              exact .inl ⟨wanted_by 67 true (by kernel_rfl) (show a.eval (.tmp 67) = (.bool true) from hk.slot 67 (by kernel_rfl)), q_field (.tmp 3) rfl (show a.eval (.tmp 3) = (.pointer (some ⟨w.heap.size, 0, none⟩)) from hk.old 3 (by kernel_rfl) (by kernel_rfl)) (v := (.pointer (some ⟨w.heap.size, 2, none⟩))) (fun w => by kernel_rfl) rfl⟩
            | false =>
              exact .inr ⟨unwanted_by 67 true (by kernel_rfl) (show a.eval (.tmp 67) = (.bool false) from hk.slot 67 (by kernel_rfl)), rfl⟩
        · -- slot 70
          cases ok with
          | true =>
            cases is_ with
            | true =>
              exact .inl ⟨wanted_by 67 true (by kernel_rfl) (show a.eval (.tmp 67) = (.bool true) from hk.slot 67 (by kernel_rfl)), q_load (.tmp 69) rfl (show a.eval (.tmp 69) = (.pointer (some ⟨w.heap.size, 2, none⟩)) from hk.slot 69 (by kernel_rfl)) (v := (.slice V.ca V.cs.length V.cc)) (fun q => load_at (fun w => by kernel_rfl) (keep q.bel c2)) rfl⟩
            | false =>
              exact .inr ⟨unwanted_by 67 true (by kernel_rfl) (show a.eval (.tmp 67) = (.bool false) from hk.slot 67 (by kernel_rfl)), rfl⟩
          | false =>
            cases is_ with
            | true =>
              exact .inl ⟨wanted_by 67 true (by kernel_rfl) (show a.eval (.tmp 67) = (.bool true) from hk.slot 67 (by kernel_rfl)), q_load (.tmp 69) rfl (show a.eval (.tmp 69) = (.pointer (some ⟨w.heap.size, 2, none⟩)) from hk.slot 69 (by kernel_rfl)) (v := (.slice V.ca V.cs.length V.cc)) (fun q => load_at (fun w => by kernel_rfl) (keep q.bel c2)) rfl⟩
            | false =>
              exact .inr ⟨unwanted_by 67 true (by kernel_rfl) (show a.eval (.tmp 67) = (.bool false) from hk.slot 67 (by kernel_rfl)), rfl⟩
        · -- slot 71
          cases ok with
          | true =>
            cases is_ with
            | true =>
              exact .inl ⟨wanted_by 67 true (by kernel_rfl) (show a.eval (.tmp 67) = (.bool true) from hk.slot 67 (by kernel_rfl)), q_move (.tmp 13) rfl (show a.eval (.tmp 13) = (.int .i64 K) from hk.old 13 (by kernel_rfl) (by kernel_rfl))⟩
            | false =>
              exact .inr ⟨unwanted_by 67 true (by kernel_rfl) (show a.eval (.tmp 67) = (.bool false) from hk.slot 67 (by kernel_rfl)), rfl⟩
          | false =>
            cases is_ with
            | true =>
              exact .inl ⟨wanted_by 67 true (by kernel_rfl) (show a.eval (.tmp 67) = (.bool true) from hk.slot 67 (by kernel_rfl)), q_move (.tmp 13) rfl (show a.eval (.tmp 13) = (.int .i64 K) from hk.old 13 (by kernel_rfl) (by kernel_rfl))⟩
            | false =>
              exact .inr ⟨unwanted_by 67 true (by kernel_rfl) (show a.eval (.tmp 67) = (.bool false) from hk.slot 67 (by kernel_rfl)), rfl⟩
        · -- slot 72
          cases ok with
          | true =>
            cases is_ with
            | true =>
              exact .inl ⟨wanted_by 67 true (by kernel_rfl) (show a.eval (.tmp 67) = (.bool true) from hk.slot 67 (by kernel_rfl)), q_index (.tmp 70) (.tmp 71) rfl (show a.eval (.tmp 70) = (.slice V.ca V.cs.length V.cc) from hk.slot 70 (by kernel_rfl)) (show a.eval (.tmp 71) = (.int .i64 K) from hk.slot 71 (by kernel_rfl)) (v := (.pointer (some (ad V.ca (k * 5))))) (fun w => (HIC.out rfl) w) rfl⟩
            | false =>
              exact .inr ⟨unwanted_by 67 true (by kernel_rfl) (show a.eval (.tmp 67) = (.bool false) from hk.slot 67 (by kernel_rfl)), rfl⟩
          | false =>
            cases is_ with
            | true =>
              exact .inl ⟨wanted_by 67 true (by kernel_rfl) (show a.eval (.tmp 67) = (.bool true) from hk.slot 67 (by kernel_rfl)), q_index (.tmp 70) (.tmp 71) rfl (show a.eval (.tmp 70) = (.slice V.ca V.cs.length V.cc) from hk.slot 70 (by kernel_rfl)) (show a.eval (.tmp 71) = (.int .i64 K) from hk.slot 71 (by kernel_rfl)) (v := (.pointer (some (ad V.ca (k * 5))))) (fun w => (HIC.out rfl) w) rfl⟩
            | false =>
              exact .inr ⟨unwanted_by 67 true (by kernel_rfl) (show a.eval (.tmp 67) = (.bool false) from hk.slot 67 (by kernel_rfl)), rfl⟩
        · -- slot 73
          cases ok with
          | true =>
            cases is_ with
            | true =>
              exact .inl ⟨wanted_by 67 true (by kernel_rfl) (show a.eval (.tmp 67) = (.bool true) from hk.slot 67 (by kernel_rfl)), q_load (.tmp 72) rfl (show a.eval (.tmp 72) = (.pointer (some (ad V.ca (k * 5)))) from hk.slot 72 (by kernel_rfl)) (v := (.agg (cA5 cy))) (fun q => HLC.out rfl q) rfl⟩
            | false =>
              exact .inr ⟨unwanted_by 67 true (by kernel_rfl) (show a.eval (.tmp 67) = (.bool false) from hk.slot 67 (by kernel_rfl)), rfl⟩
          | false =>
            cases is_ with
            | true =>
              exact .inl ⟨wanted_by 67 true (by kernel_rfl) (show a.eval (.tmp 67) = (.bool true) from hk.slot 67 (by kernel_rfl)), q_load (.tmp 72) rfl (show a.eval (.tmp 72) = (.pointer (some (ad V.ca (k * 5)))) from hk.slot 72 (by kernel_rfl)) (v := (.agg (cA5 cy))) (fun q => HLC.out rfl q) rfl⟩
            | false =>
              exact .inr ⟨unwanted_by 67 true (by kernel_rfl) (show a.eval (.tmp 67) = (.bool false) from hk.slot 67 (by kernel_rfl)), rfl⟩
        · -- slot 74
          cases ok with
          | true =>
            cases is_ with
            | true =>
              exact .inl ⟨wanted_by 67 true (by kernel_rfl) (show a.eval (.tmp 67) = (.bool true) from hk.slot 67 (by kernel_rfl)), q_bin rfl (show a.eval (.tmp 68) = (.agg (cA5 cx)) from hk.slot 68 (by kernel_rfl)) (show a.eval (.tmp 73) = (.agg (cA5 cy)) from hk.slot 73 (by kernel_rfl)) (v := (.bool false)) (fun w => HN1.out rfl _ _ w) rfl⟩
            | false =>
              exact .inr ⟨unwanted_by 67 true (by kernel_rfl) (show a.eval (.tmp 67) = (.bool false) from hk.slot 67 (by kernel_rfl)), rfl⟩
          | false =>
            cases is_ with
            | true =>
              exact .inl ⟨wanted_by 67 true (by kernel_rfl) (show a.eval (.tmp 67) = (.bool true) from hk.slot 67 (by kernel_rfl)), q_bin rfl (show a.eval (.tmp 68) = (.agg (cA5 cx)) from hk.slot 68 (by kernel_rfl)) (show a.eval (.tmp 73) = (.agg (cA5 cy)) from hk.slot 73 (by kernel_rfl)) (v := (.bool false)) (fun w => HN1.out rfl _ _ w) rfl⟩
            | false =>
              exact .inr ⟨unwanted_by 67 true (by kernel_rfl) (show a.eval (.tmp 67) = (.bool false) from hk.slot 67 (by kernel_rfl)), rfl⟩
        · -- slot 75
          cases ok with
          | true =>
            cases is_ with
            | true =>
              exact .inl ⟨wanted_by 65 false (by kernel_rfl) (show a.eval (.tmp 65) = (.bool ((false || false) || (true && (!true)))) from hk.slot 65 (by kernel_rfl)), q_pick rfl true (show a.eval (.tmp 67) = (.bool true) from hk.slot 67 (by kernel_rfl)) (show a.eval (.tmp 74) = (.bool false) from hk.slot 74 (by kernel_rfl))⟩
            | false =>
              exact .inl ⟨wanted_by 65 false (by kernel_rfl) (show a.eval (.tmp 65) = (.bool ((false || false) || (true && (!true)))) from hk.slot 65 (by kernel_rfl)), q_pick rfl false (show a.eval (.tmp 67) = (.bool false) from hk.slot 67 (by kernel_rfl)) rfl⟩
          | false =>
            cases is_ with
            | true =>
              exact .inl ⟨wanted_by 65 false (by kernel_rfl) (show a.eval (.tmp 65) = (.bool ((false || false) || (false && (!true)))) from hk.slot 65 (by kernel_rfl)), q_pick rfl true (show a.eval (.tmp 67) = (.bool true) from hk.slot 67 (by kernel_rfl)) (show a.eval (.tmp 74) = (.bool false) from hk.slot 74 (by kernel_rfl))⟩
            | false =>
              exact .inl ⟨wanted_by 65 false (by kernel_rfl) (show a.eval (.tmp 65) = (.bool ((false || false) || (false && (!true)))) from hk.slot 65 (by kernel_rfl)), q_pick rfl false (show a.eval (.tmp 67) = (.bool false) from hk.slot 67 (by kernel_rfl)) rfl⟩
        · -- slot 76
          cases ok with
          | true =>
            exact .inl ⟨wanted_free rfl, q_pick rfl false (show a.eval (.tmp 65) = (.bool ((false || false) || (true && (!true)))) from hk.slot 65 (by kernel_rfl)) (show a.eval (.tmp 75) = (.bool (is_ && false)) from hk.slot 75 (by kernel_rfl))⟩
          | false =>
            exact .inl ⟨wanted_free rfl, q_pick rfl false (show a.eval (.tmp 65) = (.bool ((false || false) || (false && (!true)))) from hk.slot 65 (by kernel_rfl)) (show a.eval (.tmp 75) = (.bool (is_ && false)) from hk.slot 75 (by kernel_rfl))⟩
        · -- slot 77
          exact .inl ⟨wanted_free rfl, q_move (.tmp 76) rfl (show a.eval (.tmp 76) = (.bool (((false || false) || (ok && (!true))) || (is_ && false))) from hk.slot 76 (by kernel_rfl))⟩
        · -- slot 78
          cases ok with
          | true =>
            cases is_ with
            | true =>
              exact .inl ⟨wanted_by 77 false (by kernel_rfl) (show a.eval (.tmp 77) = (.bool (((false || false) || (true && (!true))) || (true && false))) from hk.slot 77 (by kernel_rfl)), q_move (.tmp 9) rfl (show a.eval (.tmp 9) = (.bool true) from hk.old 9 (by kernel_rfl) (by kernel_rfl))⟩
            | false =>
              exact .inl ⟨wanted_by 77 false (by kernel_rfl) (show a.eval (.tmp 77) = (.bool (((false || false) || (true && (!true))) || (false && false))) from hk.slot 77 (by kernel_rfl)), q_move (.tmp 9) rfl (show a.eval (.tmp 9) = (.bool true) from hk.old 9 (by kernel_rfl) (by kernel_rfl))⟩
          | false =>
            cases is_ with
            | true =>
              exact .inl ⟨wanted_by 77 false (by kernel_rfl) (show a.eval (.tmp 77) = (.bool (((false || false) || (false && (!true))) || (true && false))) from hk.slot 77 (by kernel_rfl)), q_move (.tmp 9) rfl (show a.eval (.tmp 9) = (.bool false) from hk.old 9 (by kernel_rfl) (by kernel_rfl))⟩
            | false =>
              exact .inl ⟨wanted_by 77 false (by kernel_rfl) (show a.eval (.tmp 77) = (.bool (((false || false) || (false && (!true))) || (false && false))) from hk.slot 77 (by kernel_rfl)), q_move (.tmp 9) rfl (show a.eval (.tmp 9) = (.bool false) from hk.old 9 (by kernel_rfl) (by kernel_rfl))⟩
        · -- slot 79
          cases ok with
          | true =>
            cases is_ with
            | true =>
              exact .inl ⟨wanted_by 77 false (by kernel_rfl) (show a.eval (.tmp 77) = (.bool (((false || false) || (true && (!true))) || (true && false))) from hk.slot 77 (by kernel_rfl)), q_not rfl _ (show a.eval (.tmp 78) = (.bool true) from hk.slot 78 (by kernel_rfl)) rfl⟩
            | false =>
              exact .inl ⟨wanted_by 77 false (by kernel_rfl) (show a.eval (.tmp 77) = (.bool (((false || false) || (true && (!true))) || (false && false))) from hk.slot 77 (by kernel_rfl)), q_not rfl _ (show a.eval (.tmp 78) = (.bool true) from hk.slot 78 (by kernel_rfl)) rfl⟩
          | false =>
            cases is_ with
            | true =>
              exact .inl ⟨wanted_by 77 false (by kernel_rfl) (show a.eval (.tmp 77) = (.bool (((false || false) || (false && (!true))) || (true && false))) from hk.slot 77 (by kernel_rfl)), q_not rfl _ (show a.eval (.tmp 78) = (.bool false) from hk.slot 78 (by kernel_rfl)) rfl⟩
            | false =>
              exact .inl ⟨wanted_by 77 false (by kernel_rfl) (show a.eval (.tmp 77) = (.bool (((false || false) || (false && (!true))) || (false && false))) from hk.slot 77 (by kernel_rfl)), q_not rfl _ (show a.eval (.tmp 78) = (.bool false) from hk.slot 78 (by kernel_rfl)) rfl⟩
        · -- slot 80
          cases ok with
          | true =>
            cases is_ with
            | true =>
              exact .inl ⟨wanted_by 77 false (by kernel_rfl) (show a.eval (.tmp 77) = (.bool (((false || false) || (true && (!true))) || (true && false))) from hk.slot 77 (by kernel_rfl)), q_move (.tmp 79) rfl (show a.eval (.tmp 79) = (.bool (!true)) from hk.slot 79 (by kernel_rfl))⟩
            | false =>
              exact .inl ⟨wanted_by 77 false (by kernel_rfl) (show a.eval (.tmp 77) = (.bool (((false || false) || (true && (!true))) || (false && false))) from hk.slot 77 (by kernel_rfl)), q_move (.tmp 79) rfl (show a.eval (.tmp 79) = (.bool (!true)) from hk.slot 79 (by kernel_rfl))⟩
          | false =>
            cases is_ with
            | true =>
              exact .inl ⟨wanted_by 77 false (by kernel_rfl) (show a.eval (.tmp 77) = (.bool (((false || false) || (false && (!true))) || (true && false))) from hk.slot 77 (by kernel_rfl)), q_move (.tmp 79) rfl (show a.eval (.tmp 79) = (.bool (!false)) from hk.slot 79 (by kernel_rfl))⟩
            | false =>
              exact .inl ⟨wanted_by 77 false (by kernel_rfl) (show a.eval (.tmp 77) = (.bool (((false || false) || (false && (!true))) || (false && false))) from hk.slot 77 (by kernel_rfl)), q_move (.tmp 79) rfl (show a.eval (.tmp 79) = (.bool (!false)) from hk.slot 79 (by kernel_rfl))⟩
        · -- slot 81
          cases ok with
          | true =>
            cases is_ with
            | true =>
              exact .inr ⟨unwanted_by 80 true (by kernel_rfl) (show a.eval (.tmp 80) = (.bool (!true)) from hk.slot 80 (by kernel_rfl)), rfl⟩
            | false =>
              exact .inr ⟨unwanted_by 80 true (by kernel_rfl) (show a.eval (.tmp 80) = (.bool (!true)) from hk.slot 80 (by kernel_rfl)), rfl⟩
          | false =>
            cases is_ with
            | true =>
              exact .inl ⟨wanted_by 80 true (by kernel_rfl) (show a.eval (.tmp 80) = (.bool (!false)) from hk.slot 80 (by kernel_rfl)), q_load (.tmp 8) rfl (show a.eval (.tmp 8) = (.pointer (some ⟨p8, 0, none⟩)) from hk.old 8 (by kernel_rfl) (by kernel_rfl)) (v := (.agg (cA x))) (fun q => load5 (fun w => by kernel_rfl) (fun w => by kernel_rfl) (keep q.bel e0) (keep q.bel e1) (keep q.bel e2) (keep q.bel e3) (keep q.bel e4)) rfl⟩
            | false =>
              exact .inl ⟨wanted_by 80 true (by kernel_rfl) (show a.eval (.tmp 80) = (.bool (!false)) from hk.slot 80 (by kernel_rfl)), q_load (.tmp 8) rfl (show a.eval (.tmp 8) = (.pointer (some ⟨p8, 0, none⟩)) from hk.old 8 (by kernel_rfl) (by kernel_rfl)) (v := (.agg (cA x))) (fun q => load5 (fun w => by kernel_rfl) (fun w => by kernel_rfl) (keep q.bel e0) (keep q.bel e1) (keep q.bel e2) (keep q.bel e3) (keep q.bel e4)) rfl⟩
        · -- slot 82
          cases ok with
          | true =>
            cases is_ with
            | true =>
              exact .inr ⟨unwanted_by 80 true (by kernel_rfl) (show a.eval (.tmp 80) = (.bool (!true)) from hk.slot 80 (by kernel_rfl)), rfl⟩
            | false =>
              exact .inr ⟨unwanted_by 80 true (by kernel_rfl) (show a.eval (.tmp 80) = (.bool (!true)) from hk.slot 80 (by kernel_rfl)), rfl⟩
          | false =>
            cases is_ with
            | true =>
              exact .inl ⟨wanted_by 80 true (by kernel_rfl) (show a.eval (.tmp 80) = (.bool (!false)) from hk.slot 80 (by kernel_rfl)), q_run (v := .agg #[.int .i64 0, .int .i64 0, .int .i64 0, .bool false, .slice none 0 0]) (fun q => by kernel_rfl) rfl⟩
            | false =>
              exact .inl ⟨wanted_by 80 true (by kernel_rfl) (show a.eval (.tmp 80) = (.bool (!false)) from hk.slot 80 (by kernel_rfl)), q_run (v := .agg #[.int .i64 0, .int .i64 0, .int .i64 0, .bool false, .slice none 0 0]) (fun q => by kernel_rfl) rfl⟩
        · -- slot 83
          cases ok with
          | true =>
            cases is_ with
            | true =>
              exact .inr ⟨unwanted_by 80 true (by kernel_rfl) (show a.eval (.tmp 80) = (.bool (!true)) from hk.slot 80 (by kernel_rfl)), rfl⟩
            | false =>
              exact .inr ⟨unwanted_by 80 true (by kernel_rfl) (show a.eval (.tmp 80) = (.bool (!true)) from hk.slot 80 (by kernel_rfl)), rfl⟩
          | false =>
            cases is_ with
            | true =>
              exact .inl ⟨wanted_by 80 true (by kernel_rfl) (show a.eval (.tmp 80) = (.bool (!false)) from hk.slot 80 (by kernel_rfl)), q_call rfl rfl #[(.agg (cA x)), (.agg #[.int .i64 0, .int .i64 0, .int .i64 0, .bool false, .slice none 0 0])] (fun w => by kernel_rfl) (by simp only [List.map_toArray, List.map_cons, List.map_nil, (show a.eval (.tmp 81) = (.agg (cA x)) from hk.slot 81 (by kernel_rfl)), (show a.eval (.tmp 82) = (.agg #[.int .i64 0, .int .i64 0, .int .i64 0, .bool false, .slice none 0 0]) from hk.slot 82 (by kernel_rfl))]) (v := (.bool true)) (fun q => HSP2.out rfl q) rfl⟩
            | false =>
              exact .inl ⟨wanted_by 80 true (by kernel_rfl) (show a.eval (.tmp 80) = (.bool (!false)) from hk.slot 80 (by kernel_rfl)), q_call rfl rfl #[(.agg (cA x)), (.agg #[.int .i64 0, .int .i64 0, .int .i64 0, .bool false, .slice none 0 0])] (fun w => by kernel_rfl) (by simp only [List.map_toArray, List.map_cons, List.map_nil, (show a.eval (.tmp 81) = (.agg (cA x)) from hk.slot 81 (by kernel_rfl)), (show a.eval (.tmp 82) = (.agg #[.int .i64 0, .int .i64 0, .int .i64 0, .bool false, .slice none 0 0]) from hk.slot 82 (by kernel_rfl))]) (v := (.bool true)) (fun q => HSP2.out rfl q) rfl⟩
        · -- slot 84
          cases ok with
          | true =>
            cases is_ with
            | true =>
              exact .inr ⟨unwanted_by 80 true (by kernel_rfl) (show a.eval (.tmp 80) = (.bool (!true)) from hk.slot 80 (by kernel_rfl)), rfl⟩
            | false =>
              exact .inr ⟨unwanted_by 80 true (by kernel_rfl) (show a.eval (.tmp 80) = (.bool (!true)) from hk.slot 80 (by kernel_rfl)), rfl⟩
          | false =>
            cases is_ with
            | true =>
              exact .inl ⟨wanted_by 80 true (by kernel_rfl) (show a.eval (.tmp 80) = (.bool (!false)) from hk.slot 80 (by kernel_rfl)), q_not rfl _ (show a.eval (.tmp 83) = (.bool true) from hk.slot 83 (by kernel_rfl)) rfl⟩
            | false =>
              exact .inl ⟨wanted_by 80 true (by kernel_rfl) (show a.eval (.tmp 80) = (.bool (!false)) from hk.slot 80 (by kernel_rfl)), q_not rfl _ (show a.eval (.tmp 83) = (.bool true) from hk.slot 83 (by kernel_rfl)) rfl⟩
        · -- slot 85
          cases ok with
          | true =>
            cases is_ with
            | true =>
              exact .inl ⟨wanted_by 77 false (by kernel_rfl) (show a.eval (.tmp 77) = (.bool (((false || false) || (true && (!true))) || (true && false))) from hk.slot 77 (by kernel_rfl)), q_pick rfl false (show a.eval (.tmp 80) = (.bool (!true)) from hk.slot 80 (by kernel_rfl)) rfl⟩
            | false =>
              exact .inl ⟨wanted_by 77 false (by kernel_rfl) (show a.eval (.tmp 77) = (.bool (((false || false) || (true && (!true))) || (false && false))) from hk.slot 77 (by kernel_rfl)), q_pick rfl false (show a.eval (.tmp 80) = (.bool (!true)) from hk.slot 80 (by kernel_rfl)) rfl⟩
          | false =>
            cases is_ with
            | true =>
              exact .inl ⟨wanted_by 77 false (by kernel_rfl) (show a.eval (.tmp 77) = (.bool (((false || false) || (false && (!true))) || (true && false))) from hk.slot 77 (by kernel_rfl)), q_pick rfl true (show a.eval (.tmp 80) = (.bool (!false)) from hk.slot 80 (by kernel_rfl)) (show a.eval (.tmp 84) = (.bool (!true)) from hk.slot 84 (by kernel_rfl))⟩
            | false =>
              exact .inl ⟨wanted_by 77 false (by kernel_rfl) (show a.eval (.tmp 77) = (.bool (((false || false) || (false && (!true))) || (false && false))) from hk.slot 77 (by kernel_rfl)), q_pick rfl true (show a.eval (.tmp 80) = (.bool (!false)) from hk.slot 80 (by kernel_rfl)) (show a.eval (.tmp 84) = (.bool (!true)) from hk.slot 84 (by kernel_rfl))⟩
        · -- slot 86
          cases ok with
          | true =>
            cases is_ with
            | true =>
              exact .inl ⟨wanted_free rfl, q_pick rfl false (show a.eval (.tmp 77) = (.bool (((false || false) || (true && (!true))) || (true && false))) from hk.slot 77 (by kernel_rfl)) (show a.eval (.tmp 85) = (.bool ((!true) && (!true))) from hk.slot 85 (by kernel_rfl))⟩
            | false =>
              exact .inl ⟨wanted_free rfl, q_pick rfl false (show a.eval (.tmp 77) = (.bool (((false || false) || (true && (!true))) || (false && false))) from hk.slot 77 (by kernel_rfl)) (show a.eval (.tmp 85) = (.bool ((!true) && (!true))) from hk.slot 85 (by kernel_rfl))⟩
          | false =>
            cases is_ with
            | true =>
              exact .inl ⟨wanted_free rfl, q_pick rfl false (show a.eval (.tmp 77) = (.bool (((false || false) || (false && (!true))) || (true && false))) from hk.slot 77 (by kernel_rfl)) (show a.eval (.tmp 85) = (.bool ((!false) && (!true))) from hk.slot 85 (by kernel_rfl))⟩
            | false =>
              exact .inl ⟨wanted_free rfl, q_pick rfl false (show a.eval (.tmp 77) = (.bool (((false || false) || (false && (!true))) || (false && false))) from hk.slot 77 (by kernel_rfl)) (show a.eval (.tmp 85) = (.bool ((!false) && (!true))) from hk.slot 85 (by kernel_rfl))⟩
        · -- slot 87
          exact .inl ⟨wanted_free rfl, q_move (.tmp 86) rfl (show a.eval (.tmp 86) = (.bool ((((false || false) || (ok && (!true))) || (is_ && false)) || ((!ok) && (!true)))) from hk.slot 86 (by kernel_rfl))⟩
        · -- slot 88
          cases ok with
          | true =>
            cases is_ with
            | true =>
              exact .inl ⟨wanted_by 87 false (by kernel_rfl) (show a.eval (.tmp 87) = (.bool ((((false || false) || (true && (!true))) || (true && false)) || ((!true) && (!true)))) from hk.slot 87 (by kernel_rfl)), q_move (.tmp 11) rfl (show a.eval (.tmp 11) = (.bool true) from hk.old 11 (by kernel_rfl) (by kernel_rfl))⟩
            | false =>
              exact .inl ⟨wanted_by 87 false (by kernel_rfl) (show a.eval (.tmp 87) = (.bool ((((false || false) || (true && (!true))) || (false && false)) || ((!true) && (!true)))) from hk.slot 87 (by kernel_rfl)), q_move (.tmp 11) rfl (show a.eval (.tmp 11) = (.bool false) from hk.old 11 (by kernel_rfl) (by kernel_rfl))⟩
          | false =>
            cases is_ with
            | true =>
              exact .inl ⟨wanted_by 87 false (by kernel_rfl) (show a.eval (.tmp 87) = (.bool ((((false || false) || (false && (!true))) || (true && false)) || ((!false) && (!true)))) from hk.slot 87 (by kernel_rfl)), q_move (.tmp 11) rfl (show a.eval (.tmp 11) = (.bool true) from hk.old 11 (by kernel_rfl) (by kernel_rfl))⟩
            | false =>
              exact .inl ⟨wanted_by 87 false (by kernel_rfl) (show a.eval (.tmp 87) = (.bool ((((false || false) || (false && (!true))) || (false && false)) || ((!false) && (!true)))) from hk.slot 87 (by kernel_rfl)), q_move (.tmp 11) rfl (show a.eval (.tmp 11) = (.bool false) from hk.old 11 (by kernel_rfl) (by kernel_rfl))⟩
        · -- slot 89
          cases ok with
          | true =>
            cases is_ with
            | true =>
              exact .inl ⟨wanted_by 87 false (by kernel_rfl) (show a.eval (.tmp 87) = (.bool ((((false || false) || (true && (!true))) || (true && false)) || ((!true) && (!true)))) from hk.slot 87 (by kernel_rfl)), q_not rfl _ (show a.eval (.tmp 88) = (.bool true) from hk.slot 88 (by kernel_rfl)) rfl⟩
            | false =>
              exact .inl ⟨wanted_by 87 false (by kernel_rfl) (show a.eval (.tmp 87) = (.bool ((((false || false) || (true && (!true))) || (false && false)) || ((!true) && (!true)))) from hk.slot 87 (by kernel_rfl)), q_not rfl _ (show a.eval (.tmp 88) = (.bool false) from hk.slot 88 (by kernel_rfl)) rfl⟩
          | false =>
            cases is_ with
            | true =>
              exact .inl ⟨wanted_by 87 false (by kernel_rfl) (show a.eval (.tmp 87) = (.bool ((((false || false) || (false && (!true))) || (true && false)) || ((!false) && (!true)))) from hk.slot 87 (by kernel_rfl)), q_not rfl _ (show a.eval (.tmp 88) = (.bool true) from hk.slot 88 (by kernel_rfl)) rfl⟩
            | false =>
              exact .inl ⟨wanted_by 87 false (by kernel_rfl) (show a.eval (.tmp 87) = (.bool ((((false || false) || (false && (!true))) || (false && false)) || ((!false) && (!true)))) from hk.slot 87 (by kernel_rfl)), q_not rfl _ (show a.eval (.tmp 88) = (.bool false) from hk.slot 88 (by kernel_rfl)) rfl⟩
        · -- slot 90
          cases ok with
          | true =>
            cases is_ with
            | true =>
              exact .inl ⟨wanted_by 87 false (by kernel_rfl) (show a.eval (.tmp 87) = (.bool ((((false || false) || (true && (!true))) || (true && false)) || ((!true) && (!true)))) from hk.slot 87 (by kernel_rfl)), q_move (.tmp 89) rfl (show a.eval (.tmp 89) = (.bool (!true)) from hk.slot 89 (by kernel_rfl))⟩
            | false =>
              exact .inl ⟨wanted_by 87 false (by kernel_rfl) (show a.eval (.tmp 87) = (.bool ((((false || false) || (true && (!true))) || (false && false)) || ((!true) && (!true)))) from hk.slot 87 (by kernel_rfl)), q_move (.tmp 89) rfl (show a.eval (.tmp 89) = (.bool (!false)) from hk.slot 89 (by kernel_rfl))⟩
          | false =>
            cases is_ with
            | true =>
              exact .inl ⟨wanted_by 87 false (by kernel_rfl) (show a.eval (.tmp 87) = (.bool ((((false || false) || (false && (!true))) || (true && false)) || ((!false) && (!true)))) from hk.slot 87 (by kernel_rfl)), q_move (.tmp 89) rfl (show a.eval (.tmp 89) = (.bool (!true)) from hk.slot 89 (by kernel_rfl))⟩
            | false =>
              exact .inl ⟨wanted_by 87 false (by kernel_rfl) (show a.eval (.tmp 87) = (.bool ((((false || false) || (false && (!true))) || (false && false)) || ((!false) && (!true)))) from hk.slot 87 (by kernel_rfl)), q_move (.tmp 89) rfl (show a.eval (.tmp 89) = (.bool (!false)) from hk.slot 89 (by kernel_rfl))⟩
        · -- slot 91
          cases ok with
          | true =>
            cases is_ with
            | true =>
              exact .inr ⟨unwanted_by 90 true (by kernel_rfl) (show a.eval (.tmp 90) = (.bool (!true)) from hk.slot 90 (by kernel_rfl)), rfl⟩
            | false =>
              exact .inl ⟨wanted_by 90 true (by kernel_rfl) (show a.eval (.tmp 90) = (.bool (!false)) from hk.slot 90 (by kernel_rfl)), q_load (.tmp 10) rfl (show a.eval (.tmp 10) = (.pointer (some ⟨pA, 0, none⟩)) from hk.old 10 (by kernel_rfl) (by kernel_rfl)) (v := (.agg (cA5 cx))) (fun q => load5 (fun w => by kernel_rfl) (fun w => by kernel_rfl) (keep q.bel f0) (keep q.bel f1) (keep q.bel f2) (keep q.bel f3) (keep q.bel f4)) rfl⟩
          | false =>
            cases is_ with
            | true =>
              exact .inr ⟨unwanted_by 90 true (by kernel_rfl) (show a.eval (.tmp 90) = (.bool (!true)) from hk.slot 90 (by kernel_rfl)), rfl⟩
            | false =>
              exact .inl ⟨wanted_by 90 true (by kernel_rfl) (show a.eval (.tmp 90) = (.bool (!false)) from hk.slot 90 (by kernel_rfl)), q_load (.tmp 10) rfl (show a.eval (.tmp 10) = (.pointer (some ⟨pA, 0, none⟩)) from hk.old 10 (by kernel_rfl) (by kernel_rfl)) (v := (.agg (cA5 cx))) (fun q => load5 (fun w => by kernel_rfl) (fun w => by kernel_rfl) (keep q.bel f0) (keep q.bel f1) (keep q.bel f2) (keep q.bel f3) (keep q.bel f4)) rfl⟩
        · -- slot 92
          cases ok with
          | true =>
            cases is_ with
            | true =>
              exact .inr ⟨unwanted_by 90 true (by kernel_rfl) (show a.eval (.tmp 90) = (.bool (!true)) from hk.slot 90 (by kernel_rfl)), rfl⟩
            | false =>
              exact .inl ⟨wanted_by 90 true (by kernel_rfl) (show a.eval (.tmp 90) = (.bool (!false)) from hk.slot 90 (by kernel_rfl)), q_run (v := .agg #[.int .i64 0, .int .i64 0, .int .i64 0, .int .i64 0, .int .i64 0]) (fun q => by kernel_rfl) rfl⟩
          | false =>
            cases is_ with
            | true =>
              exact .inr ⟨unwanted_by 90 true (by kernel_rfl) (show a.eval (.tmp 90) = (.bool (!true)) from hk.slot 90 (by kernel_rfl)), rfl⟩
            | false =>
              exact .inl ⟨wanted_by 90 true (by kernel_rfl) (show a.eval (.tmp 90) = (.bool (!false)) from hk.slot 90 (by kernel_rfl)), q_run (v := .agg #[.int .i64 0, .int .i64 0, .int .i64 0, .int .i64 0, .int .i64 0]) (fun q => by kernel_rfl) rfl⟩
        · -- slot 93
          cases ok with
          | true =>
            cases is_ with
            | true =>
              exact .inr ⟨unwanted_by 90 true (by kernel_rfl) (show a.eval (.tmp 90) = (.bool (!true)) from hk.slot 90 (by kernel_rfl)), rfl⟩
            | false =>
              exact .inl ⟨wanted_by 90 true (by kernel_rfl) (show a.eval (.tmp 90) = (.bool (!false)) from hk.slot 90 (by kernel_rfl)), q_bin rfl (show a.eval (.tmp 91) = (.agg (cA5 cx)) from hk.slot 91 (by kernel_rfl)) (show a.eval (.tmp 92) = (.agg #[.int .i64 0, .int .i64 0, .int .i64 0, .int .i64 0, .int .i64 0]) from hk.slot 92 (by kernel_rfl)) (v := (.bool false)) (fun w => HN2.out rfl _ _ w) rfl⟩
          | false =>
            cases is_ with
            | true =>
              exact .inr ⟨unwanted_by 90 true (by kernel_rfl) (show a.eval (.tmp 90) = (.bool (!true)) from hk.slot 90 (by kernel_rfl)), rfl⟩
            | false =>
              exact .inl ⟨wanted_by 90 true (by kernel_rfl) (show a.eval (.tmp 90) = (.bool (!false)) from hk.slot 90 (by kernel_rfl)), q_bin rfl (show a.eval (.tmp 91) = (.agg (cA5 cx)) from hk.slot 91 (by kernel_rfl)) (show a.eval (.tmp 92) = (.agg #[.int .i64 0, .int .i64 0, .int .i64 0, .int .i64 0, .int .i64 0]) from hk.slot 92 (by kernel_rfl)) (v := (.bool false)) (fun w => HN2.out rfl _ _ w) rfl⟩
        · -- slot 94
          cases ok with
          | true =>
            cases is_ with
            | true =>
              exact .inl ⟨wanted_by 87 false (by kernel_rfl) (show a.eval (.tmp 87) = (.bool ((((false || false) || (true && (!true))) || (true && false)) || ((!true) && (!true)))) from hk.slot 87 (by kernel_rfl)), q_pick rfl false (show a.eval (.tmp 90) = (.bool (!true)) from hk.slot 90 (by kernel_rfl)) rfl⟩
            | false =>
              exact .inl ⟨wanted_by 87 false (by kernel_rfl) (show a.eval (.tmp 87) = (.bool ((((false || false) || (true && (!true))) || (false && false)) || ((!true) && (!true)))) from hk.slot 87 (by kernel_rfl)), q_pick rfl true (show a.eval (.tmp 90) = (.bool (!false)) from hk.slot 90 (by kernel_rfl)) (show a.eval (.tmp 93) = (.bool false) from hk.slot 93 (by kernel_rfl))⟩
          | false =>
            cases is_ with
            | true =>
              exact .inl ⟨wanted_by 87 false (by kernel_rfl) (show a.eval (.tmp 87) = (.bool ((((false || false) || (false && (!true))) || (true && false)) || ((!false) && (!true)))) from hk.slot 87 (by kernel_rfl)), q_pick rfl false (show a.eval (.tmp 90) = (.bool (!true)) from hk.slot 90 (by kernel_rfl)) rfl⟩
            | false =>
              exact .inl ⟨wanted_by 87 false (by kernel_rfl) (show a.eval (.tmp 87) = (.bool ((((false || false) || (false && (!true))) || (false && false)) || ((!false) && (!true)))) from hk.slot 87 (by kernel_rfl)), q_pick rfl true (show a.eval (.tmp 90) = (.bool (!false)) from hk.slot 90 (by kernel_rfl)) (show a.eval (.tmp 93) = (.bool false) from hk.slot 93 (by kernel_rfl))⟩
        · -- slot 95
          cases ok with
          | true =>
            cases is_ with
            | true =>
              exact .inl ⟨wanted_free rfl, q_pick rfl false (show a.eval (.tmp 87) = (.bool ((((false || false) || (true && (!true))) || (true && false)) || ((!true) && (!true)))) from hk.slot 87 (by kernel_rfl)) (show a.eval (.tmp 94) = (.bool ((!true) && false)) from hk.slot 94 (by kernel_rfl))⟩
            | false =>
              exact .inl ⟨wanted_free rfl, q_pick rfl false (show a.eval (.tmp 87) = (.bool ((((false || false) || (true && (!true))) || (false && false)) || ((!true) && (!true)))) from hk.slot 87 (by kernel_rfl)) (show a.eval (.tmp 94) = (.bool ((!false) && false)) from hk.slot 94 (by kernel_rfl))⟩
          | false =>
            cases is_ with
            | true =>
              exact .inl ⟨wanted_free rfl, q_pick rfl false (show a.eval (.tmp 87) = (.bool ((((false || false) || (false && (!true))) || (true && false)) || ((!false) && (!true)))) from hk.slot 87 (by kernel_rfl)) (show a.eval (.tmp 94) = (.bool ((!true) && false)) from hk.slot 94 (by kernel_rfl))⟩
            | false =>
              exact .inl ⟨wanted_free rfl, q_pick rfl false (show a.eval (.tmp 87) = (.bool ((((false || false) || (false && (!true))) || (false && false)) || ((!false) && (!true)))) from hk.slot 87 (by kernel_rfl)) (show a.eval (.tmp 94) = (.bool ((!false) && false)) from hk.slot 94 (by kernel_rfl))⟩
      intro a q7 hsame hall
      have he := act_same hsame [42, 43, 44, 45, 46, 47, 48, 49, 50, 51, 52, 53, 54, 55, 56, 57, 58, 59, 60, 61, 62, 63, 64, 65, 66, 67, 68, 69, 70, 71, 72, 73, 74, 75, 76, 77, 78, 79, 80, 81, 82, 83, 84, 85, 86, 87, 88, 89, 90, 91, 92, 93, 94, 95] (by kernel_rfl)
      simp only [List.foldl_cons, List.foldl_nil] at he
      rw [show a.eval (.tmp 95) = (.bool false) from (hall 95 (by kernel_rfl)).trans (by cases ok <;> cases is_ <;> rfl)] at he
      generalize a.eval (.tmp 42) = x42 at he
      generalize a.eval (.tmp 43) = x43 at he
      generalize a.eval (.tmp 44) = x44 at he
      generalize a.eval (.tmp 45) = x45 at he
      generalize a.eval (.tmp 46) = x46 at he
      generalize a.eval (.tmp 47) = x47 at he
      generalize a.eval (.tmp 48) = x48 at he
      generalize a.eval (.tmp 49) = x49 at he
      generalize a.eval (.tmp 50) = x50 at he
      generalize a.eval (.tmp 51) = x51 at he
      generalize a.eval (.tmp 52) = x52 at he
      generalize a.eval (.tmp 53) = x53 at he
      generalize a.eval (.tmp 54) = x54 at he
      generalize a.eval (.tmp 55) = x55 at he
      generalize a.eval (.tmp 56) = x56 at he
      generalize a.eval (.tmp 57) = x57 at he
      generalize a.eval (.tmp 58) = x58 at he
      generalize a.eval (.tmp 59) = x59 at he
      generalize a.eval (.tmp 60) = x60 at he
      generalize a.eval (.tmp 61) = x61 at he
      generalize a.eval (.tmp 62) = x62 at he
      generalize a.eval (.tmp 63) = x63 at he
      generalize a.eval (.tmp 64) = x64 at he
      generalize a.eval (.tmp 65) = x65 at he
      generalize a.eval (.tmp 66) = x66 at he
      generalize a.eval (.tmp 67) = x67 at he
      generalize a.eval (.tmp 68) = x68 at he
      generalize a.eval (.tmp 69) = x69 at he
      generalize a.eval (.tmp 70) = x70 at he
      generalize a.eval (.tmp 71) = x71 at he
      generalize a.eval (.tmp 72) = x72 at he
      generalize a.eval (.tmp 73) = x73 at he
      generalize a.eval (.tmp 74) = x74 at he
      generalize a.eval (.tmp 75) = x75 at he
      generalize a.eval (.tmp 76) = x76 at he
      generalize a.eval (.tmp 77) = x77 at he
      generalize a.eval (.tmp 78) = x78 at he
      generalize a.eval (.tmp 79) = x79 at he
      generalize a.eval (.tmp 80) = x80 at he
      generalize a.eval (.tmp 81) = x81 at he
      generalize a.eval (.tmp 82) = x82 at he
      generalize a.eval (.tmp 83) = x83 at he
      generalize a.eval (.tmp 84) = x84 at he
      generalize a.eval (.tmp 85) = x85 at he
      generalize a.eval (.tmp 86) = x86 at he
      generalize a.eval (.tmp 87) = x87 at he
      generalize a.eval (.tmp 88) = x88 at he
      generalize a.eval (.tmp 89) = x89 at he
      generalize a.eval (.tmp 90) = x90 at he
      generalize a.eval (.tmp 91) = x91 at he
      generalize a.eval (.tmp 92) = x92 at he
      generalize a.eval (.tmp 93) = x93 at he
      generalize a.eval (.tmp 94) = x94 at he
      simp only [put_lit] at he
      dsimp only [List.set_cons_zero, List.set_cons_succ] at he
      subst he
      clear hsame hall
      obtain ⟨wA, hwA⟩ : ∃ wA, wA = q7.to := ⟨_, rfl⟩
      have hbA := q7.bel
      rw [← hwA] at hbA ⊢
      clear hwA q7
      have HBA := Lib.hid (HB9.out.trans (hbA.mono HB9.out.size))
      have HXA := Lib.hid (And.intro (blk_stay HX9.out.1 hbA) (HX9.out.2.1.stay hbA))
      clear hbA HIO HKO HPF HCF HIP HIC HLP HLC HSP1 HSP2 HN1 HN2 c0 c1 c2 e0 e1 e2 e3 e4 f0 f1 f2 f3 f4 HF9 HX9 HB9
      have HFA := Lib.hid (HF.out.stay HBA.out)
      have HVA := Lib.hid HFA.out.v
      have HUA := Lib.hid HFA.out.u
      obtain ⟨c0, c1, c2⟩ := HFA.out.iv
      obtain ⟨d0, d1, d2⟩ := HFA.out.id
      obtain ⟨g0, g1', g2'⟩ := HFA.out.iu
      obtain ⟨S, hS⟩ : ∃ S, Hid (S = decide (V.cfg = D.cfg)) := ⟨_, rfl⟩
      have HS1 : Hid (∀ q : After wA, Calls Try.prog 56 #[.agg #[.slice U.wa U.ws.length U.wc, .slice U.pa U.ps.length U.pc, .slice U.ca U.cs.length U.cc], .agg #[.slice D.wa D.ws.length D.wc, .slice D.pa D.ps.length D.pc, .slice D.ca D.cs.length D.cc]] q.to fun e w' => e = .returned (.bool S) ∧ Below q.to.heap.size q.to w') := fun q => by
        have := csame_calls q.to U D (HFA.out.u.stay q.bel) (HFA.out.d.stay q.bel)
        rwa [HUC.out, ← hS.out] at this
      have HS2 : Hid (∀ q : After wA, Calls Try.prog 25 #[.agg #[.slice V.wa V.ws.length V.wc, .slice V.pa V.ps.length V.pc, .slice V.ca V.cs.length V.cc], .agg #[.slice D.wa D.ws.length D.wc, .slice D.pa D.ps.length D.pc, .slice D.ca D.cs.length D.cc]] q.to fun e w' => e = .returned (.bool S) ∧ Below q.to.heap.size q.to w') := fun q => by
        have := same11_calls q.to V D (HFA.out.v.stay q.bel) (HFA.out.d.stay q.bel)
        rwa [← hS.out] at this
      go_upto_region 9 with fail
      refine wp_region_tyg (cf9 w.heap.size p7 V D U S) (by kernel_rfl) (by kernel_rfl) (cf9_stay w.heap.size p7 V D U S) ?_ ?_
      · refine opsAll_cons ?_ (opsAll_cons ?_ (opsAll_cons ?_ (opsAll_cons ?_ (opsAll_cons ?_ (opsAll_cons ?_ (opsAll_cons ?_ (opsAll_cons ?_ (opsAll_cons ?_ (opsAll_cons ?_ (opsAll_cons ?_ (opsAll_cons ?_ (opsAll_cons ?_ (opsAll_cons ?_ opsAll_nil)))))))))))))
        all_goals intro a wx hk
        · exact .inl ⟨wanted_free rfl, gp_load (.tmp 7) rfl (show a.eval (.tmp 7) = (.pointer (some ⟨p7, 0, none⟩)) from ((hk.old 7 (by kernel_rfl)).trans rfl)) ((fun (q : After _) => load3 (fun w => by kernel_rfl) (fun w => by kernel_rfl) (keep q.bel g0) (keep q.bel g1') (keep q.bel g2')) ⟨wx, hk.below⟩) ⟨Below.refl _ _, rfl⟩⟩
        · exact .inl ⟨wanted_free rfl, gp_load (.tmp 4) rfl (show a.eval (.tmp 4) = (.pointer (some ⟨w.heap.size + 1, 0, none⟩)) from ((hk.old 4 (by kernel_rfl)).trans rfl)) ((fun (q : After _) => load3 (fun w => by kernel_rfl) (fun w => by kernel_rfl) (keep q.bel d0) (keep q.bel d1) (keep q.bel d2)) ⟨wx, hk.below⟩) ⟨Below.refl _ _, rfl⟩⟩
        · exact .inl ⟨wanted_free rfl, gp_call rfl (hk.fn _) #[.agg #[.slice U.wa U.ws.length U.wc, .slice U.pa U.ps.length U.pc, .slice U.ca U.cs.length U.cc], .agg #[.slice D.wa D.ws.length D.wc, .slice D.pa D.ps.length D.pc, .slice D.ca D.cs.length D.cc]] (fun w => by kernel_rfl) (by simp only [List.map_toArray, List.map_cons, List.map_nil, (show a.eval (.tmp 96) = (.agg #[.slice U.wa U.ws.length U.wc, .slice U.pa U.ps.length U.pc, .slice U.ca U.cs.length U.cc]) from hk.slot 96 (by kernel_rfl)), (show a.eval (.tmp 97) = (.agg #[.slice D.wa D.ws.length D.wc, .slice D.pa D.ps.length D.pc, .slice D.ca D.cs.length D.cc]) from hk.slot 97 (by kernel_rfl))]) (((fun (q : After _) => HS1.out q) ⟨wx, hk.below⟩).mono fun e w' ⟨he, hb⟩ => ⟨_, he, hb, rfl⟩)⟩
        · exact .inl ⟨wanted_free rfl, gp_load (.tmp 3) rfl (show a.eval (.tmp 3) = (.pointer (some ⟨w.heap.size, 0, none⟩)) from ((hk.old 3 (by kernel_rfl)).trans rfl)) ((fun (q : After _) => load3 (fun w => by kernel_rfl) (fun w => by kernel_rfl) (keep q.bel c0) (keep q.bel c1) (keep q.bel c2)) ⟨wx, hk.below⟩) ⟨Below.refl _ _, rfl⟩⟩
        · exact .inl ⟨wanted_free rfl, gp_load (.tmp 4) rfl (show a.eval (.tmp 4) = (.pointer (some ⟨w.heap.size + 1, 0, none⟩)) from ((hk.old 4 (by kernel_rfl)).trans rfl)) ((fun (q : After _) => load3 (fun w => by kernel_rfl) (fun w => by kernel_rfl) (keep q.bel d0) (keep q.bel d1) (keep q.bel d2)) ⟨wx, hk.below⟩) ⟨Below.refl _ _, rfl⟩⟩
        · exact .inl ⟨wanted_free rfl, gp_call rfl (hk.fn _) #[.agg #[.slice V.wa V.ws.length V.wc, .slice V.pa V.ps.length V.pc, .slice V.ca V.cs.length V.cc], .agg #[.slice D.wa D.ws.length D.wc, .slice D.pa D.ps.length D.pc, .slice D.ca D.cs.length D.cc]] (fun w => by kernel_rfl) (by simp only [List.map_toArray, List.map_cons, List.map_nil, (show a.eval (.tmp 99) = (.agg #[.slice V.wa V.ws.length V.wc, .slice V.pa V.ps.length V.pc, .slice V.ca V.cs.length V.cc]) from hk.slot 99 (by kernel_rfl)), (show a.eval (.tmp 100) = (.agg #[.slice D.wa D.ws.length D.wc, .slice D.pa D.ps.length D.pc, .slice D.ca D.cs.length D.cc]) from hk.slot 100 (by kernel_rfl))]) (((fun (q : After _) => HS2.out q) ⟨wx, hk.below⟩).mono fun e w' ⟨he, hb⟩ => ⟨_, he, hb, rfl⟩)⟩
        · exact .inl ⟨wanted_free rfl, gp_bin rfl (show a.eval (.tmp 98) = (.bool S) from hk.slot 98 (by kernel_rfl)) (show a.eval (.tmp 101) = (.bool S) from hk.slot 101 (by kernel_rfl)) (v := .bool false) (fun w => by cases S <;> go_simp) ⟨Below.refl _ _, rfl⟩⟩
        · exact .inl ⟨wanted_free rfl, gp_move (.tmp 102) rfl ⟨Below.refl _ _, hk.slot 102 (by kernel_rfl)⟩⟩
        · exact .inl ⟨wanted_by 103 false (by kernel_rfl) (show a.eval (.tmp 103) = .bool false from hk.slot 103 (by kernel_rfl)), gp_load (.tmp 7) rfl (show a.eval (.tmp 7) = (.pointer (some ⟨p7, 0, none⟩)) from ((hk.old 7 (by kernel_rfl)).trans rfl)) ((fun (q : After _) => load3 (fun w => by kernel_rfl) (fun w => by kernel_rfl) (keep q.bel g0) (keep q.bel g1') (keep q.bel g2')) ⟨wx, hk.below⟩) ⟨Below.refl _ _, rfl⟩⟩
        · exact .inl ⟨wanted_by 103 false (by kernel_rfl) (show a.eval (.tmp 103) = .bool false from hk.slot 103 (by kernel_rfl)), gp_load (.tmp 3) rfl (show a.eval (.tmp 3) = (.pointer (some ⟨w.heap.size, 0, none⟩)) from ((hk.old 3 (by kernel_rfl)).trans rfl)) ((fun (q : After _) => load3 (fun w => by kernel_rfl) (fun w => by kernel_rfl) (keep q.bel c0) (keep q.bel c1) (keep q.bel c2)) ⟨wx, hk.below⟩) ⟨Below.refl _ _, rfl⟩⟩
        · exact .inl ⟨wanted_by 103 false (by kernel_rfl) (show a.eval (.tmp 103) = .bool false from hk.slot 103 (by kernel_rfl)), gp_call rfl (hk.fn _) #[.agg #[.slice V.wa V.ws.length V.wc, .slice V.pa V.ps.length V.pc, .slice V.ca V.cs.length V.cc]] (fun w => by kernel_rfl) (by simp only [List.map_toArray, List.map_cons, List.map_nil, show a.eval (.tmp 105) = _ from hk.slot 105 (by kernel_rfl)]) ((copied_calls wx V (HVA.out.stay hk.below) HSM.out).mono fun e w' ⟨Z, he, hc, ho, hb⟩ => ⟨_, he, hb, Z, rfl, hc, ho.at⟩)⟩
        · obtain ⟨Z2, e106, hc, ha⟩ := hk.slot 106 (by kernel_rfl)
          exact .inl ⟨wanted_by 103 false (by kernel_rfl) (show a.eval (.tmp 103) = .bool false from hk.slot 103 (by kernel_rfl)), gp_call rfl (hk.fn _) #[.agg #[.slice U.wa U.ws.length U.wc, .slice U.pa U.ps.length U.pc, .slice U.ca U.cs.length U.cc], .agg (cU Z2)] (fun w => by kernel_rfl) (by simp only [List.map_toArray, List.map_cons, List.map_nil, show a.eval (.tmp 104) = _ from hk.slot 104 (by kernel_rfl), show a.eval (.tmp 106) = _ from e106]) ((csame_calls wx U Z2 (HUA.out.stay hk.below) ha).mono fun e w' ⟨he, hb⟩ => ⟨_, he, hb, congrArg Value.bool (decide_eq_true (HUC.out.trans hc.symm))⟩)⟩
        · exact .inl ⟨wanted_by 103 false (by kernel_rfl) (show a.eval (.tmp 103) = .bool false from hk.slot 103 (by kernel_rfl)), gp_not rfl true (show a.eval (.tmp 107) = (.bool true) from hk.slot 107 (by kernel_rfl)) ⟨Below.refl _ _, rfl⟩⟩
        · exact .inl ⟨wanted_free rfl, gp_pick rfl false (show a.eval (.tmp 103) = (.bool false) from hk.slot 103 (by kernel_rfl)) ⟨Below.refl _ _, (show a.eval (.tmp 108) = (.bool false) from hk.slot 108 (by kernel_rfl))⟩⟩
      intro a wB hbz hsame hall
      have he := act_same hsame [96, 97, 98, 99, 100, 101, 102, 103, 104, 105, 106, 107, 108, 109] (by kernel_rfl)
      simp only [List.foldl_cons, List.foldl_nil] at he
      rw [show a.eval (.tmp 109) = (.bool false) from hall 109 (by kernel_rfl)] at he
      generalize a.eval (.tmp 96) = y96 at he
      generalize a.eval (.tmp 97) = y97 at he
      generalize a.eval (.tmp 98) = y98 at he
      generalize a.eval (.tmp 99) = y99 at he
      generalize a.eval (.tmp 100) = y100 at he
      generalize a.eval (.tmp 101) = y101 at he
      generalize a.eval (.tmp 102) = y102 at he
      generalize a.eval (.tmp 103) = y103 at he
      generalize a.eval (.tmp 104) = y104 at he
      generalize a.eval (.tmp 105) = y105 at he
      generalize a.eval (.tmp 106) = y106 at he
      generalize a.eval (.tmp 107) = y107 at he
      generalize a.eval (.tmp 108) = y108 at he
      simp only [put_lit] at he
      dsimp only [List.set_cons_zero, List.set_cons_succ] at he
      subst he
      clear hsame hall
      have HBB := Lib.hid (HBA.out.trans (hbz.mono HBA.out.size))
      have HXB := Lib.hid (And.intro (blk_stay HXA.out.1 hbz) (HXA.out.2.stay hbz))
      clear hbz HS1 HS2 c0 c1 c2 d0 d1 d2 g0 g1' g2' HFA HVA HUA HXA HBA
      have HFB := Lib.hid (HF.out.stay HBB.out)
      obtain ⟨g0, g1', g2'⟩ := HFB.out.iu
      have HCC := Lib.hid (ccopy_calls wB U HFB.out.u HSU.out)
      go_wp2_with fail
      refine (HCC.out).mono ?_
      rintro e wC ⟨Y, rfl, hY, hYF, hbC⟩
      obtain ⟨wD, hwD⟩ : ∃ wD, wD = wC.alloc (.cells #[.slice Y.wa Y.ws.length Y.wc, .slice Y.pa Y.ps.length Y.pc, .slice Y.ca Y.cs.length Y.cc] 26) := ⟨_, rfl⟩
      obtain ⟨pY, hpY⟩ : ∃ p, p = wC.heap.size := ⟨_, rfl⟩
      have hbCD : Below wC.heap.size wC wD := by rw [hwD]; exact (Below.refl _ _).alloc (Nat.le_refl _) _
      have hYB : InBox wD pY Y := by rw [hwD, hpY]; exact inBox_new wC Y _
      have HYD := Lib.hid (And.intro hYB (hYF.stay hbCD))
      have HYC : Hid (Y.cfg = V.cfg) := hY.trans HUC.out
      have HBD : Hid (Below wB.heap.size wB wD) := hbC.trans (hbCD.mono hbC.size)
      clear hY hYF hbC hbCD hYB HCC g0 g1' g2'
      go_upto_region 12 with fail
      rw [← hwD, ← hpY]
      clear hwD hpY
      obtain ⟨g0, g1', g2'⟩ := HYD.out.1
      obtain ⟨c0, c1, c2⟩ := (HFB.out.stay HBD.out).iv
      have hs := same11_calls wD Y V HYD.out.2.at (HFB.out.stay HBD.out).v
      rw [decide_eq_true HYC.out] at hs
      have HS := Lib.hid hs
      clear hs
      go_wp2_with fail
      refine (HS.out).mono ?_
      rintro e wE ⟨rfl, hbE⟩
      have HYE := Lib.hid (And.intro (HYD.out.1.keep hbE) (HYD.out.2.stay hbE))
      have HBE : Hid (Below wB.heap.size wB wE) := HBD.out.trans (hbE.mono HBD.out.size)
      clear hbE HS HYD HBD g0 g1' g2' c0 c1 c2
      obtain ⟨g0, g1', g2'⟩ := HYE.out.1
      have HSP := Lib.hid (spoil_calls wE Y wB.heap.size HYE.out.2 HBE.out.size)
      go_wp2_with fail
      refine (HSP.out).mono ?_
      rintro e wF ⟨rfl, hbF⟩
      have hBF : Below wB.heap.size wB wF := HBE.out.trans hbF
      have HM : Hid (ImI w4 p8 x wF) := ⟨fun e => room_own (HXB.out.2.stay hBF) e, fun k hk => ⟨_, (HXB.out.2.stay hBF).isRow.cell k hk⟩, blk_stay HXB.out.1 hBF, HBB.out.trans (hBF.mono HBB.out.size)⟩
      have hlx := (HXB.out.2).isRow.len_le
      clear hBF hbF HSP HYE HBE g0 g1' g2' HXB HFB HBB
      obtain ⟨c0, c1, c2⟩ := (HF.out.stay HM.out.low).iv
      obtain ⟨g0, g1', g2'⟩ := (HF.out.stay HM.out.low).iu
      have x4 : wF.cell? ⟨p8, 4, none⟩ = some (.slice x.a x.img.length x.c) := cells_of HM.out.box 4 rfl
      go_wp2_with fail
      go_loopw [15] (fun i wr => ∃ m : Nat, i = .int .i64 (m : Int) ∧ m ≤ x.img.length ∧ Hid (ImI w4 p8 x wr)) (fun i _ => x.img.length - (intOf i).toNat)
      case atStart => exact ⟨0, rfl, Nat.zero_le _, HM⟩
      case round =>
        clear HM x4 c0 c1 c2 g0 g1' g2'
        obtain ⟨m, rfl, hm, HM⟩ := hrel
        have x4 : wr.cell? ⟨p8, 4, none⟩ = some (.slice x.a x.img.length x.c) := cells_of HM.out.box 4 rfl
        by_cases hmt : m < x.img.length
        · have hrx := HM.out.room (by intro h1; rw [h1] at hmt; simp at hmt)
          have ij := index_at etU hrx x.c m hmt
          rw [Nat.mul_one] at ij
          obtain ⟨b, ej⟩ := HM.out.byt m hmt
          have fj := (hrx.cell hmt).2
          have HN := Lib.hid (HM.out.set m hmt (bXor b (bI 255)))
          rw [show vb (bXor b (bI 255)) = Value.int .u8 (bits .xor .u8 (b.toNat : Int) 255) by rw [show (255 : Int) = ((bI 255).toNat : Int) from rfl, bits_b_xor]; rfl] at HN
          clear hrx
          go_wp2_with fail
          go_roundw
          case rel => exact ⟨m + 1, by go_num, by omega, HN⟩
          case measure => simp [intOf]; omega
        · obtain ⟨c0, c1, c2⟩ := (HF.out.stay HM.out.low).iv
          obtain ⟨g0, g1', g2'⟩ := (HF.out.stay HM.out.low).iu
          have hs := same11_calls wr U V (HF.out.stay HM.out.low).u (HF.out.stay HM.out.low).v
          rw [decide_eq_true HUC.out] at hs
          have HS := Lib.hid hs
          clear hs
          go_wp2_with fail
          refine (HS.out).mono ?_
          rintro e wG ⟨rfl, hbG⟩
          have HBG := Lib.hid (HM.out.low.trans (hbG.mono HM.out.low.size))
          clear hbG HS c0 c1 c2 g0 g1' g2'
          go_wp2_with fail
          refine (awake11_calls wG).mono ?_
          rintro e wH ⟨rfl, hbH⟩
          go_wp2_with fail
          go_ret
          exact ⟨rfl, HB0.out.trans ((HB4.out.trans ((HBG.out.trans (hbH.mono HBG.out.size)).mono HB4.out.size)).mono HB0.out.size)⟩
theorem configFinds_all (w : World) (V D : CfgV) (id : Int) (h : V.At w) (hb : ∀ x ∈ V.ps, x.img.length ≤ 140737488351232) (k : D.At w) (kb : ∀ x ∈ D.ps, x.img.length ≤ 140737488351232) (_ : -9223372036854775808 ≤ id ∧ id ≤ 9223372036854775807) : Calls Try.prog 14 #[.agg (cCfg V).toArray, .agg (cCfg D).toArray, .int .i64 id] w fun e w' => e = .returned (.bool true) ∧ Below w.heap.size w w' :=
  configFinds_law w V D id h hb k kb
end Go.Proofs.Ytpnbaapjjchlbaa
