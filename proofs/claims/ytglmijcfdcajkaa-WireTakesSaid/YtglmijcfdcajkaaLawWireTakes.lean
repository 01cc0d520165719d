/- WireTakes: fields are taken of any bytes as the reference takes them. The law's walk. -/
import Derived.Test.YtglmijcfdcajkaaWireSame
import Derived.Test.YtglmijcfdcajkaaWireFlds
namespace Go.Proofs.Ytglmijcfdcajkaa
open Go Go.RowKit Go.Cit

theorem wpList_load_g {ops : Array Oper} {rest : List Oper} {o : Oper} {act : Act} {w : World} {Q : Exit → Act → World → Prop} {T : TypeId} {x : Operand} {p v : Value} (hgd : Region.wanted o (yielded ops act.tmps) = true) (ho : o.op = .load T x) (hx : act.eval x = p) (hr : (Instr.loadAt T p).run Try.prog w = .ok v w)
    (h : wpList Try.prog ops Q rest (act.put o.dst v) w) : wpList Try.prog ops Q (o :: rest) act w := by
  unfold wpList
  rw [if_pos hgd]
  left
  unfold Oper.wp execOp
  simp only [ho, hx, Sem.run_bind, hr]
  exact h

set_option maxRecDepth 100000 in
set_option maxHeartbeats 4000000 in
theorem wireTakes_law (w : World) (a0 : Option Addr) (l : List UInt8) (c0 : Nat) (a1 : Option Addr) (fs : List Fl) (c1 : Nat) (h0 : Row w a0 l c0) (h1 : Flds w a1 fs c1) :
    Calls Try.prog 5 #[.slice a0 l.length c0, .slice a1 fs.length c1] w fun e w' => e = .returned (.bool true) ∧ Below w.heap.size w w' := by
  have hlen := h0.len_le
  have hlen1 := h1.len_le
  go_enter Try.func5, Try.ntmps5
  by_cases hl : 1000 < l.length
  · go_wp2_with fail
    go_ret
    exact ⟨rfl, Below.refl _ _⟩
  by_cases hf : 60 < fs.length
  · go_wp2_with fail
    go_ret
    exact ⟨rfl, Below.refl _ _⟩
  have cl : l.length ≤ 1000 := by omega
  have cf : fs.length ≤ 60 := by omega
  go_wp2_with fail
  refine (toXo (copy_calls _ _ _ _ h0 (by omega))).mono ?_
  rintro e w1 ⟨a2, X, c2, HX, rfl, hm1, hb1⟩
  go_wp2_with fail
  refine (newreader_calls _ hm1.row).mono ?_
  rintro e w2 ⟨rfl, hR, hb2⟩
  have r2 := h0.stay (hb1.trans (hb2.mono hb1.size))
  go_wp2_with fail
  refine (refnew_calls _ r2).mono ?_
  rintro e w3 ⟨g, HG, rfl, hF, hb3⟩
  obtain ⟨s, hs⟩ : ∃ s, Hid (s = St.new l) := ⟨_, rfl⟩
  have hR : RdAt w1.heap.size w2.heap.size w2 w1.heap.size s := by rw [hs.out, ← HX.out]; exact hR
  rw [← hs.out] at hF
  have gG := HG.out
  have hrlt : w1.heap.size < w2.heap.size := by obtain ⟨a, c, hr⟩ := hR; exact hr.lt
  have HB : Both w1.heap.size w2.heap.size w2.heap.size w3.heap.size w3 w1.heap.size g s :=
    ⟨hR.save (S := fun _ => True) (Save.of hb3) trivial (fun _ _ _ => trivial), hF, hrlt, gG.1, hb3.size, Nat.le_refl _, gG.1, gG.2⟩
  have m3 := (hm1.row.stay hb2).stay hb3
  have hmb : X ≠ [] → ∀ x, Go.Cit.blk a2 = some x → x < w1.heap.size := by
    intro hX x hx
    have h5 := hm1.row.blk (List.length_pos_iff.2 hX)
    have : (ad a2 0).block = x := by
      cases ha : a2 with
      | none => rw [ha] at hx; simp [Go.Cit.blk] at hx
      | some p => rw [ha] at hx; simpa [Go.Cit.blk, ad] using hx
    omega
  have B3 : Below w.heap.size w w3 := (hb1.trans (hb2.mono hb1.size)).trans (hb3.mono (Nat.le_trans hb1.size hb2.size))
  have z1 := hb1.size
  have z2 := hb2.size
  clear hR hF hb1 hb2 hb3 r2 hm1 hl hf HG
  go_wp2_with fail
  go_loopw [8] (fun i wx => ∃ (k : Nat) (s : St), k ≤ fs.length + 1 ∧ i = .int .i64 k ∧ Both w1.heap.size w2.heap.size w2.heap.size w3.heap.size wx w1.heap.size g s ∧ Row wx a2 X c2 ∧ Below w.heap.size w wx) (fun i _ => fs.length + 1 - (intOf i).toNat)
  case atStart => exact ⟨0, s, Nat.zero_le _, rfl, HB, m3, B3⟩
  case round =>
    clear HB m3 B3 hs
    obtain ⟨k, s, hk, rfl, HB, mx, B⟩ := hrel
    have hzz := B.size
    by_cases hlt : k ≤ fs.length
    · obtain ⟨a, c, hr⟩ := HB.rd
      have hF := HB.rf
      have q0 := h0.stay B
      have dE : ∀ n, (wr.drewN n).cell? ⟨g, 2, none⟩ = some (.int .i64 s.e) := fun n => by obtain ⟨a', B', c', t', hf', _⟩ := hF; exact hf'.c2
      have gs : (ordB X l == 0) = true := by rw [HX.out]; exact ordB_self _
      have K1 := Lib.hid (fun n => rleft_calls (hr.stay (below_drewN _ _ n)))
      have K2 := Lib.hid (fun n => rfleft_calls (hF.stay (below_drewN _ _ n)))
      have K3 := Lib.hid (fun n => rerr_calls (hr.stay (below_drewN _ _ n)))
      have K4 := Lib.hid (fun n => rend_calls (hr.stay (below_drewN _ _ n)))
      have K5 := Lib.hid (fun n => rfend_calls (hF.stay (below_drewN _ _ n)))
      have K6 := Lib.hid (fun n => same_calls _ _ _ X l c2 c0 (mx.drewN n) (q0.drewN n))
      go_wp2_with fail
      go_quiet (first
        | (go_at_call 19; exact Calls.quiet_of_same ((K1.out _).mono fun _ _ ⟨he, hm⟩ => ⟨he, hm.symm⟩))
        | (go_at_call 23; exact Calls.quiet_of (K2.out _))
        | (go_at_call 18; exact Calls.quiet_of_same ((K3.out _).mono fun _ _ ⟨he, hm⟩ => ⟨he, hm.symm⟩))
        | (go_at_call 24; exact Calls.quiet_of_same ((K4.out _).mono fun _ _ ⟨he, hm⟩ => ⟨he, hm.symm⟩))
        | (go_at_call 25; exact Calls.quiet_of (K5.out _))
        | (go_at_call 16; exact Calls.quiet_of (K6.out _)))
      have D := below_drewN wr.heap.size wr nq
      have HBn := HB.stay D
      have mn := mx.stay D
      have Bn := B.trans (D.mono B.size)
      have qn := h1.stay Bn
      have zn := Bn.size
      clear K1 K2 K3 K4 K5 K6 dE HB mx B D q0 hF hr
      generalize wr.drewN nq = wn at *
      by_cases hlt2 : k < fs.length
      · have i0 := qn.index k hlt2
        have HLD := Lib.hid (qn.load k hlt2)
        have hsm := lsame_calls HBn fs[k]
        go_wp2_with ((with_reducible refine wpList_load_g (o := ⟨some 68, .load 31 (.tmp 67), _, _, _, _⟩) (by with_unfolding_all rfl) (by with_unfolding_all rfl) (by with_unfolding_all rfl) HLD.out ?_))
        refine Calls.mono hsm ?_
        rintro e w6 ⟨rfl, ⟨s', HB6⟩, hS6⟩
        have m6 := mn.save' hS6 (fun hX x hx => ⟨by have := hmb hX x hx; omega, by have := hmb hX x hx; omega⟩)
        have B6 := Bn.trans (hS6.below Bn.size (fun x hx => ⟨by omega, by omega⟩))
        clear hsm
        go_wp2_with fail
        go_roundw
        case rel => exact ⟨k + 1, s', by omega, by go_num, HB6, m6, B6⟩
        case measure => simp [intOf]; omega
      · go_wp2_with fail
        go_roundw
        case rel => exact ⟨k + 1, s, by omega, by go_num, HBn, mn, Bn⟩
        case measure => simp [intOf]; omega
    · go_wp2_with fail
      go_ret
      exact ⟨rfl, B⟩
end Go.Proofs.Ytglmijcfdcajkaa
