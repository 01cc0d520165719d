/- The reference's readers of layer 5, Count and Tag: contracts. -/
import Derived.Test.YtpnbaapjjchlbaaRefGet
namespace Go.Proofs.Ytpnbaapjjchlbaa
open Go Go.RowKit Go.Cit

theorem count_eq (s : St) (most : Int) : s.count most = if (s.read 8 fInt 0).2.e = 0 then (if 0 ≤ (s.read 8 fInt 0).1 ∧ (s.read 8 fInt 0).1 ≤ most ∧ (s.read 8 fInt 0).1 ≤ ((s.read 8 fInt 0).2.l.length : Int) then ((s.read 8 fInt 0).1, (s.read 8 fInt 0).2) else (0, St.broke)) else (0, (s.read 8 fInt 0).2) := by
  unfold St.count St.read
  rcases num_cases s 8 with ⟨x, s', h1, h2, h3⟩ | ⟨s', h1, h3⟩
  · rw [h1]; simp [fInt, h3]
  · rw [h1]; simp [h3]

set_option maxRecDepth 100000 in
theorem rfcount_calls {base top w b s} (h : RfAt base top w b s) (most : Int) :
    Calls Try.prog 115 #[.pointer (some ⟨b, 0, none⟩), .int .i64 most] w fun r w' => r = .returned (.int .i64 (s.count most).1) ∧ RfAt base top w' b (s.count most).2 ∧ Save (· ≠ b) w w' := by
  have hk := rfint_calls h
  have HC := Lib.hid (count_eq s most)
  obtain ⟨q, hq⟩ : ∃ q, Hid (q = s.read 8 fInt 0) := ⟨_, rfl⟩
  rw [← hq.out] at hk HC
  obtain ⟨q1, l, e⟩ := q
  go_enter Try.func115, Try.ntmps115
  go_wp2_with fail
  refine Calls.mono hk ?_
  rintro r w1 ⟨rfl, ⟨a, B, c, t, hR, hd⟩, hS⟩
  clear hk
  have c2 : ∀ k, (w1.drewN k).cell? ⟨b, 2, none⟩ = some (.int .i64 e) := fun _ => hR.c2
  have d0 : ∀ k, (w1.drewN k).cell? ⟨b, 0, none⟩ = some (.slice a B.length c) := fun _ => hR.c0
  have d1 : ∀ k, (w1.drewN k).cell? ⟨b, 1, none⟩ = some (.int .i64 t) := fun _ => hR.c1
  have f2 : ∀ k, (w1.drewN k).frozen? ⟨b, 2, none⟩ = false := fun _ => hR.fr 2
  have hl := hR.len
  have hle := hR.le
  have hRn : ∀ k, Rf base top (w1.drewN k) b a B c t e := fun k => hR.save (S := fun _ => True) (Save.drewN _ _) trivial (fun _ _ _ => trivial)
  by_cases he : e = 0
  · have ge : (e == 0) = true := by rw [he]; rfl
    have h3 : B.drop t = l := hd he
    have HL : Hid ((l.length : Int) = B.length - t) := by rw [Hid, ← h3, List.length_drop]; omega
    have HE := Lib.hid he
    by_cases g1 : q1 < 0
    · have d01 : decide (q1 < 0) = true := decide_eq_true g1
      have HC2 : Hid (s.count most = (0, St.broke)) := by rw [Hid, HC.out]; simp only [if_pos he]; rw [if_neg (by rintro ⟨h1, h2, h3⟩; omega)]
      have g0 : True := trivial
      clear he hd h3 HC
      go_wp2_with fail
      go_quiet (fail)
      go_wp2_with fail
      go_ret
      rw [HC2.out]
      exact ⟨rfl, (hRn _).broke, hS.trans ((Save.drewN _ _).trans Save.set)⟩
    have d01 : decide (q1 < 0) = false := decide_eq_false g1
    by_cases g2 : most < q1
    · have d02 : decide (most < q1) = true := decide_eq_true g2
      have HC2 : Hid (s.count most = (0, St.broke)) := by rw [Hid, HC.out]; simp only [if_pos he]; rw [if_neg (by rintro ⟨h1, h2, h3⟩; omega)]
      have g0 : True := trivial
      clear he hd h3 HC
      go_wp2_with fail
      go_quiet (fail)
      go_wp2_with fail
      go_ret
      rw [HC2.out]
      exact ⟨rfl, (hRn _).broke, hS.trans ((Save.drewN _ _).trans Save.set)⟩
    have d02 : decide (most < q1) = false := decide_eq_false g2
    by_cases g3 : (B.length : Int) - t < q1
    · have d03 : decide ((B.length : Int) - t < q1) = true := decide_eq_true g3
      have HC2 : Hid (s.count most = (0, St.broke)) := by rw [Hid, HC.out]; simp only [if_pos he]; rw [if_neg (by rintro ⟨h1, h2, h3⟩; have := HL.out; omega)]
      have g0 : True := trivial
      clear he hd h3 HC
      go_wp2_with fail
      go_quiet (fail)
      go_wp2_with fail
      go_ret
      rw [HC2.out]
      exact ⟨rfl, (hRn _).broke, hS.trans ((Save.drewN _ _).trans Save.set)⟩
    have d03 : decide ((B.length : Int) - t < q1) = false := decide_eq_false g3
    have HC2 : Hid (s.count most = (q1, ⟨l, e⟩)) := by rw [Hid, HC.out]; simp only [if_pos he]; rw [if_pos ⟨by omega, by omega, by have := HL.out; omega⟩]
    have ge2 : (e != 0) = false := by rw [he]; rfl
    clear he HC
    go_wp2_with fail
    go_quiet (fail)
    go_wp2_with fail
    go_ret
    rw [HC2.out]
    exact ⟨rfl, ⟨a, B, c, t, hRn _, fun _ => h3⟩, hS.trans (Save.drewN _ _)⟩
  · have ge : (e == 0) = false := by simpa using he
    have ge2 : (e != 0) = true := by simpa using he
    have HC2 : Hid (s.count most = (0, ⟨l, e⟩)) := by rw [Hid, HC.out]; simp only [if_neg he]
    have HE := Lib.hid he
    clear he HC
    go_wp2_with fail
    go_quiet (fail)
    go_wp2_with fail
    go_ret
    rw [HC2.out]
    exact ⟨rfl, ⟨a, B, c, t, hRn _, fun h0 => absurd h0 HE.out⟩, hS.trans (Save.drewN _ _)⟩
end Go.Proofs.Ytpnbaapjjchlbaa
