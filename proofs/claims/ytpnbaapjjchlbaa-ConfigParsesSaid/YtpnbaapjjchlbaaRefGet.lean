/- The reference's readers of layer 5, field by field: contracts, against the same functions of St as the program's. -/
import Derived.Test.YtpnbaapjjchlbaaRefRead
namespace Go.Proofs.Ytpnbaapjjchlbaa
open Go Go.RowKit Go.Cit

theorem num_cases (s : St) (n : Nat) : (∃ x s', s.next n = (some x, s') ∧ x.length = n ∧ s'.e = 0) ∨ (∃ s', s.next n = (none, s') ∧ s'.e ≠ 0) := by
  unfold St.next
  by_cases he : s.e = 0
  · by_cases hn : n ≤ s.l.length
    · left; exact ⟨s.l.take n, ⟨s.l.drop n, 0⟩, by simp [he, hn], by rw [List.length_take]; omega, rfl⟩
    · right; exact ⟨St.broke, by simp [he, hn], by decide⟩
  · right; exact ⟨s, by simp [he], he⟩

theorem b_numB (x : List UInt8) (h : x.length = 1) : bOfQ (numB x) = x.getD 0 0 ∧ (numB x).toNat = (x.getD 0 0).toNat := by
  match x, h with
  | [y], _ =>
    have h1 : (numB [y]).toNat = y.toNat := by rw [numB_toNat _ (by simp)]; simp [numN]
    refine ⟨?_, h1⟩
    apply UInt8.toNat_inj.1
    unfold bOfQ
    rw [UInt64.toNat_toUInt8, h1]
    have := y.toNat_lt
    simp only [List.getD_cons_zero]
    omega

theorem rfint_calls {base top w b s} (h : RfAt base top w b s) :
    Calls Try.prog 116 #[.pointer (some ⟨b, 0, none⟩)] w fun r w' => r = .returned (.int .i64 (s.read 8 fInt 0).1) ∧ RfAt base top w' b (s.read 8 fInt 0).2 ∧ Save (· ≠ b) w w' := by
  have hk := rfnumber_calls h 8 (by decide) (by decide)
  rw [show ((8 : Nat) : Int) = 8 from rfl] at hk
  have HE : Hid (wrap64 ((s.num 8).1.toNat : Int) = (s.read 8 fInt 0).1 ∧ (s.num 8).2 = (s.read 8 fInt 0).2) := by
    rw [Hid]; unfold St.num St.read
    rcases num_cases s 8 with ⟨x, s', h1, h2, _⟩ | ⟨s', h1, _⟩
    · rw [h1]; exact ⟨rfl, rfl⟩
    · rw [h1]; exact ⟨(show wrap64 (((0 : UInt64).toNat : Nat) : Int) = 0 from by kernel_rfl), rfl⟩
  obtain ⟨q, hq⟩ : ∃ q, Hid (q = s.num 8) := ⟨_, rfl⟩
  rw [← hq.out] at hk HE
  go_enter Try.func116, Try.ntmps116
  go_wp2_with fail
  refine Calls.mono hk ?_
  rintro r w1 ⟨rfl, hR, hS⟩
  go_wp2_with fail
  go_ret
  rw [← HE.out.1, ← HE.out.2]
  exact ⟨rfl, hR, hS⟩

/-- A reference's reader is broken. -/
theorem Rf.broke {base top w b a B c t e} (h : Rf base top w b a B c t e) : RfAt base top (w.setCell ⟨b, 2, none⟩ (.int .i64 50)) b St.broke :=
  ⟨a, B, c, t, ⟨set2 h.blk, h.row.save' Save.set (fun hB g hg => (h.off hB g hg).1), h.ge, h.off, h.len, h.le⟩, fun h => absurd h (by decide)⟩

theorem rfflag_calls {base top w b s} (h : RfAt base top w b s) :
    Calls Try.prog 117 #[.pointer (some ⟨b, 0, none⟩)] w fun r w' => r = .returned (.bool (s.read 1 fFlag false).1) ∧ RfAt base top w' b (s.read 1 fFlag false).2 ∧ Save (· ≠ b) w w' := by
  have hk := rfnumber_calls h 1 (by decide) (by decide)
  rw [show ((1 : Nat) : Int) = 1 from rfl] at hk
  obtain ⟨q, hq⟩ : ∃ q, Hid (q = s.num 1) := ⟨_, rfl⟩
  have HE : Hid ((q.1.toNat ≤ 1 → s.read 1 fFlag false = (decide (q.1.toNat = 1), q.2)) ∧ (1 < q.1.toNat → s.read 1 fFlag false = (false, St.broke))) := by
    rw [Hid, hq.out]; unfold St.num St.read
    rcases num_cases s 1 with ⟨x, s', h1, h2, _⟩ | ⟨s', h1, _⟩
    · rw [h1]
      have hb := (b_numB x h2).2
      have hx : (x.getD 0 0 == bI 1) = decide ((numB x).toNat = 1) := by
        rw [hb, Bool.eq_iff_iff, beq_iff_eq, decide_eq_true_eq]
        constructor
        · intro hx; rw [hx]; rfl
        · intro hx; apply UInt8.toNat_inj.1; rw [hx]; rfl
      simp only [fFlag, hx]
      rw [← hb]
      exact ⟨fun hle => by simp [hle], fun hlt => by simp [Nat.not_le.2 hlt]⟩
    · rw [h1]; exact ⟨fun _ => rfl, fun hlt => absurd (show 1 < (0 : UInt64).toNat from hlt) (by decide)⟩
  rw [← hq.out] at hk
  obtain ⟨q1, q2⟩ := q
  go_enter Try.func117, Try.ntmps117
  go_wp2_with fail
  refine Calls.mono hk ?_
  rintro r w1 ⟨rfl, ⟨a1, B1, c1, t1, hR, hd⟩, hS⟩
  have d2 := hR.c2
  have f2 := hR.fr 2
  by_cases hle : q1.toNat ≤ 1
  · have hr := Lib.hid (HE.out.1 hle)
    have g : ¬ (1 : Int) < q1.toNat := by omega
    go_wp2_with fail
    go_ret
    rw [hr.out]
    refine ⟨ret_bool ?_, ⟨a1, B1, c1, t1, hR, hd⟩, hS⟩
    rw [Bool.eq_iff_iff]; simp; omega
  · have hr := Lib.hid (HE.out.2 (by omega))
    have g : (1 : Int) < q1.toNat := by omega
    go_wp2_with fail
    go_ret
    rw [hr.out]
    refine ⟨ret_bool ?_, hR.broke, hS.trans Save.set⟩
    simp; omega

/-- 'next' as one contract: what the reader gives, what it is then. -/
theorem rfnext_calls {base top w b s} (h : RfAt base top w b s) (n : Nat) (hn : n ≤ 1000000) :
    Calls Try.prog 162 #[.pointer (some ⟨b, 0, none⟩), .int .i64 n] w fun r w' => ∃ a' X c', Hid (X = (s.read n fAll []).1) ∧ r = .returned (.tuple #[.slice a' X.length c', .bool (s.next n).1.isSome]) ∧ Mine w.heap.size w' a' X c' ∧ RfAt base top w' b (s.read n fAll []).2 ∧ Save (· ≠ b) w w' := by
  obtain ⟨a, B, c, t, hR, hd⟩ := h
  obtain ⟨l, e⟩ := s
  by_cases hy : e = 0 ∧ n ≤ B.length - t
  · obtain ⟨rfl, hn⟩ := hy
    obtain rfl : B.drop t = l := hd rfl
    have hnl : n ≤ (B.drop t).length := by rw [List.length_drop]; exact hn
    rw [read_yes hnl rfl, next_yes hnl]
    exact rfnext_yes hR n hn
  · have hno : e = 0 → ((B.length - t : Nat) : Int) < n := fun he => by have := fun h => hy ⟨he, h⟩; omega
    have hno2 : e = 0 → l.length < n := fun he => by have h2 := hno he; have h3 := hd he; simp only at h3; rw [← h3, List.length_drop]; omega
    rw [read_no hno2, next_no hno2]
    refine (rfnext_no hR n (by omega) (by omega) hno).mono ?_
    rintro r w' ⟨hr, hR', hS⟩
    refine ⟨none, [], 0, rfl, hr, Mine.nil _ _, ?_, hS⟩
    by_cases he : e = 0
    · have h3 := hd he
      simp only at h3
      rw [← h3]; exact hR'
    · unfold St.breaks at hR' ⊢
      rw [if_neg he] at hR' ⊢
      obtain ⟨a', B', c', t', hR', _⟩ := hR'
      exact ⟨a', B', c', t', hR', fun h0 => absurd h0 he⟩

theorem rfbytes_calls {base top w b s} (h : RfAt base top w b s) :
    Calls Try.prog 118 #[.pointer (some ⟨b, 0, none⟩)] w fun r w' => ∃ a' X c', Hid (X = s.bytes.1) ∧ r = .returned (.slice a' X.length c') ∧ Mine w.heap.size w' a' X c' ∧ RfAt base top w' b s.bytes.2 ∧ Save (· ≠ b) w w' := by
  have hk := rfnumber_calls h 4 (by decide) (by decide)
  rw [show ((4 : Nat) : Int) = 4 from rfl] at hk
  obtain ⟨q, hq⟩ : ∃ q, Hid (q = s.num 4) := ⟨_, rfl⟩
  have HE : Hid ((q.1.toNat ≤ 65536 → s.bytes = q.2.read q.1.toNat fAll []) ∧ (65536 < q.1.toNat → s.bytes = ([], St.broke))) := by
    rw [Hid, hq.out]; unfold St.bytes St.num
    rcases num_cases s 4 with ⟨x, s', h1, h2, h3⟩ | ⟨s', h1, h3⟩
    · have hr : s.read 4 fLen 0 = if (numB x).toNat ≤ 65536 then (((numB x).toNat : Int), s') else (0, St.broke) := by
        unfold St.read; rw [h1]; simp [fLen]
      rw [h1, hr]
      refine ⟨fun hle => ?_, fun hlt => ?_⟩
      · simp only at hle
        rw [if_pos hle]; simp [h3]
      · simp only at hlt
        have hgt : ¬ (numB x).toNat ≤ 65536 := by omega
        simp [hgt, St.broke]
    · have hr : s.read 4 fLen 0 = (0, s') := by unfold St.read; rw [h1]
      rw [h1, hr]
      refine ⟨fun _ => ?_, fun hlt => absurd (show 65536 < (0 : UInt64).toNat from hlt) (by decide)⟩
      simp only [if_neg h3]
      have : s'.next (0 : UInt64).toNat = (none, s') := by unfold St.next; rw [if_pos h3]
      unfold St.read; rw [this]
  rw [← hq.out] at hk
  obtain ⟨q1, q2⟩ := q
  go_enter Try.func118, Try.ntmps118
  go_wp2_with fail
  refine Calls.mono hk ?_
  rintro r w1 ⟨rfl, hR1, hS⟩
  by_cases hle : q1.toNat ≤ 65536
  · have hr := Lib.hid (HE.out.1 hle)
    have g : ¬ (65536 : Int) < q1.toNat := by omega
    have hnx := rfnext_calls hR1 q1.toNat (by omega)
    go_wp2_with fail
    refine Calls.mono hnx ?_
    rintro r w2 ⟨a2, X, c2, HX, rfl, hm2, hR2, hS2⟩
    go_wp2_with fail
    go_ret
    rw [hr.out]
    exact ⟨a2, X, c2, HX, rfl, hm2.low hS.size, hR2, hS.trans hS2⟩
  · have hr := Lib.hid (HE.out.2 (by omega))
    have g : (65536 : Int) < q1.toNat := by omega
    obtain ⟨a1, B1, c1, t1, hR, hd⟩ := hR1
    have d2 := hR.c2
    have f2 := hR.fr 2
    go_wp2_with fail
    go_ret
    rw [hr.out]
    exact ⟨none, [], 0, rfl, rfl, Mine.nil _ _, hR.broke, hS.trans Save.set⟩

theorem rfend_calls {base top w b s} (h : RfAt base top w b s) :
    Calls Try.prog 119 #[.pointer (some ⟨b, 0, none⟩)] w fun r w' => r = .returned (.int .i64 s.fin) ∧ Drew w w' := by
  obtain ⟨a, B, c, t, hR, hd⟩ := h
  obtain ⟨l, e⟩ := s
  have c2 : ∀ k, (w.drewN k).cell? ⟨b, 2, none⟩ = some (.int .i64 e) := fun _ => hR.c2
  have d0 : ∀ k, (w.drewN k).cell? ⟨b, 0, none⟩ = some (.slice a B.length c) := fun _ => hR.c0
  have d1 : ∀ k, (w.drewN k).cell? ⟨b, 1, none⟩ = some (.int .i64 t) := fun _ => hR.c1
  have hl := hR.len
  have hle := hR.le
  by_cases he : e = 0
  · have ge : (e == 0) = true := by rw [he]; rfl
    have h3 := hd he
    simp only at h3
    by_cases hlt : t < B.length
    · have HE : Hid (St.fin ⟨l, e⟩ = 50) := by rw [Hid, St.fin, St.left, if_pos he, if_pos]; rw [← h3, List.length_drop]; omega
      clear he hd h3
      go_enter Try.func119, Try.ntmps119
      go_wp2_with fail
      go_quiet (fail)
      go_wp2_with fail
      go_ret
      exact ⟨by rw [HE.out]; rfl, ⟨_, rfl⟩⟩
    · have HE : Hid (St.fin ⟨l, e⟩ = e) := by rw [Hid, St.fin, St.left, if_pos he, if_neg]; rw [← h3, List.length_drop]; omega
      clear he hd h3
      go_enter Try.func119, Try.ntmps119
      go_wp2_with fail
      go_quiet (fail)
      go_wp2_with fail
      go_ret
      exact ⟨by rw [HE.out]; rfl, ⟨_, rfl⟩⟩
  · have ge : (e == 0) = false := by simpa using he
    have HE : Hid (St.fin ⟨l, e⟩ = e) := by rw [Hid, St.fin, St.left, if_neg he]; rfl
    clear he hd
    go_enter Try.func119, Try.ntmps119
    go_wp2_with fail
    go_quiet (fail)
    go_wp2_with fail
    go_ret
    exact ⟨by rw [HE.out]; rfl, ⟨_, rfl⟩⟩
end Go.Proofs.Ytpnbaapjjchlbaa
