/- sha.Eat: walked. -/
import Derived.Test.YtiemafgnpmoblaaShaEat
import Derived.Test.YtiemafgnpmoblaaShaFirst
namespace Go.Proofs.Ytiemafgnpmoblaa
open Go Go.RowKit Go.Cit

def eatbC (r : Nat) (W : World) (E Y : Array Value) (δ : Nat → Bool) (_ : Act) (wx : World) : Prop :=
  Save (· ≠ r) W wx ∧ wx.heap[r]? = some (.cells (if δ 4 then E else Y) 24 (0, 0))
def eatbT (a : Option Addr) (c : Nat) (S Kv E : Array Value) : Nat → Value → World → Prop
  | 10, v, _ => v = .agg S
  | 11, v, _ => v = .slice a 64 c
  | 12, v, _ => v = .agg Kv
  | 13, v, _ => v = .agg E
  | 5, v, _ => v = .int .i64 0
  | _, _, _ => True
theorem eatbT_any {a : Option Addr} {c : Nat} {S Kv E : Array Value} {d : Nat} {v : Value} {w w' : World} (h : eatbT a c S Kv E d v w) : eatbT a c S Kv E d v w' := by
  unfold eatbT at *
  split at h <;> simp_all
theorem eatbC_pure {r : Nat} {W : World} {E Y : Array Value} {δ : Nat → Bool} {a a' : Act} {wx w' : World} (h : eatbC r W E Y δ a wx) (hb : Below wx.heap.size wx w') {i : Nat} (hi : i ≠ 4) :
    eatbC r W E Y (upd δ i) a' w' := by
  obtain ⟨h1, h2⟩ := h
  refine ⟨h1.trans (Save.of hb), ?_⟩
  rw [upd_other δ hi, hb.block _ (Array.getElem?_eq_some_iff.1 h2).1]; exact h2

set_option maxRecDepth 100000 in
set_option maxHeartbeats 4000000 in
theorem eatb_calls (w : World) (s : S8) (a : Option Addr) (b : List UInt8) (c : Nat) (hr : Row w a b c) (hb : b.length = 64) :
    Calls Try.prog 13 #[.agg (s.l.map vw).toArray, .slice a 64 c] w fun e w' => e = .returned (.tuple #[.agg ((s.eat kTab b).l.map vw).toArray, .int .i64 0]) ∧ Below w.heap.size w w' := by
  have HA := Lib.hid (fun ρ d ty ps af w => alloc_state ρ d ty ps (af := af) w)
  obtain ⟨Y, hY⟩ : ∃ Y, Hid (Y = ((List.replicate 8 (0 : UInt32)).map vw).toArray) := ⟨_, rfl⟩
  obtain ⟨S, hS⟩ : ∃ S, Hid (S = (s.l.map vw).toArray) := ⟨_, rfl⟩
  obtain ⟨KV, hKV⟩ : ∃ S, Hid (S = (kTab.map vw).toArray) := ⟨_, rfl⟩
  obtain ⟨E, hE⟩ : ∃ F, Hid (F = ((s.eat kTab b).l.map vw).toArray) := ⟨_, rfl⟩
  rw [← hY.out] at HA
  rw [← hS.out, ← hE.out]
  have HY : Hid (Y.size = 8) := by rw [Hid, hY.out]; simp
  have HSs : Hid (S.size = 8) := by rw [Hid, hS.out]; simp [S8.l]
  have HEs : Hid (E.size = 8) := by rw [Hid, hE.out]; simp [S8.l]
  have HEo : Hid (E.all (·.oneCell') = true) := by rw [Hid, hE.out]; exact arr_ok _
  have HR := Lib.hid hr
  have HBL := Lib.hid hb
  clear hr hb
  go_enter Try.func13, Try.ntmps13
  go_wp2_with (first
    | ((with_reducible refine wpList_boxB (o := ⟨some 2, .box _ (.tmp 0), _, _, _, _⟩) (.tmp 0) (by with_unfolding_all rfl) (by with_unfolding_all rfl) (by with_unfolding_all rfl) ?_))
    | ((with_reducible refine wpList_value (o := ⟨some 4, .alloc _, _, _, _, _⟩) (by with_unfolding_all rfl) (HA.out _ _ _ _ _ _) ?_)))
  have hsz : ((w.alloc (.cells S 24)).alloc (.cells Y 24)).heap.size = w.heap.size + 2 := by simp
  have B0 : Below w.heap.size w ((w.alloc (.cells S 24)).alloc (.cells Y 24)) := ((Below.refl _ w).alloc (Nat.le_refl _) _).alloc (by simp) _
  have b0 : ((w.alloc (.cells S 24)).alloc (.cells Y 24)).heap[w.heap.size]? = some (.cells S 24 (0, 0)) :=
    (Below.heap_alloc _ _ _ (by simp)).trans (heap_alloc_new w _)
  have b1 : ((w.alloc (.cells S 24)).alloc (.cells Y 24)).heap[w.heap.size + 1]? = some (.cells Y 24 (0, 0)) := by
    have := heap_alloc_new (w.alloc (.cells S 24)) (.cells Y 24)
    rwa [World.size_alloc] at this
  try simp only [World.size_alloc]
  generalize ((w.alloc (.cells S 24)).alloc (.cells Y 24)) = W at hsz B0 b0 b1 ⊢
  have HRW : Hid (Row W a b c) := HR.out.stay B0
  refine wp_region_st (eatbC (w.heap.size + 1) W E Y) (fun _ _ _ => True) (eatbT a c S KV E) (by kernel_rfl) (by kernel_rfl) ?_ ?_ ?_ ?_
  · intro w' hb hh
    exact ⟨Save.of hb, by rw [hh]; exact b1⟩
  · intro δ i j o v a w w' _ _ _ _ _ _ _ h
    rcases hd : o.dst with _ | d
    · exact tyP_none hd _ _
    · rw [tyP_some hd] at h ⊢
      exact eatbT_any h
  · refine opsAll_cons ?_ (opsAll_cons ?_ (opsAll_cons ?_ (opsAll_cons ?_ (opsAll_cons ?_ (opsAll_cons ?_ opsAll_nil)))))
    all_goals intro δ wa wx hk
    · have hb := (hk.inv.1.block w.heap.size (by omega) (by omega)).trans b0
      exact ⟨wanted_free rfl, gp_loadB row_state (.tmp 2) rfl (hk.old 2 (by kernel_rfl)) hb HSs.out ⟨trivial, eatbC_pure hk.inv (Below.refl _ _) (by decide), rfl⟩⟩
    · exact ⟨wanted_free rfl, gp_move (.tmp 1) rfl ⟨trivial, eatbC_pure hk.inv (Below.refl _ _) (by decide), hk.old 1 (by kernel_rfl)⟩⟩
    · refine ⟨wanted_free rfl, gp_call rfl (hk.fn _) #[] (fun w => by kernel_rfl) (by simp) ((constants_calls wx).mono ?_)⟩
      rintro e w' ⟨rfl, hb⟩
      exact ⟨_, rfl, trivial, eatbC_pure hk.inv hb (by decide), by rw [← hKV.out]; rfl⟩
    · refine ⟨wanted_free rfl, gp_call rfl (hk.fn _) #[.agg S, .slice a 64 c, .agg KV] (fun w => by kernel_rfl) (by simp [show wa.eval (.tmp 10) = _ from hk.slot 10 (by kernel_rfl), show wa.eval (.tmp 11) = _ from hk.slot 11 (by kernel_rfl), show wa.eval (.tmp 12) = _ from hk.slot 12 (by kernel_rfl)]) ?_⟩
      have hRx : Row wx a b c := HRW.out.save' hk.inv.1 (fun hne g hg => by
        have hl := HR.out.spot hne
        obtain ⟨b', o', e'⟩ := hl
        subst e'
        have := HR.out.blk (i := 0) (List.length_pos_iff.2 hne)
        simp [Go.Cit.blk] at hg
        simp [ad] at this
        omega)
      rw [hS.out, hKV.out]
      refine (eat_calls wx s a b c kTab hRx HBL.out (by decide)).mono ?_
      rintro e w' ⟨rfl, hb⟩
      exact ⟨_, rfl, trivial, eatbC_pure hk.inv hb (by decide), by rw [← hE.out]; rfl⟩
    · obtain ⟨h1, h2⟩ := hk.inv
      rw [hk.yet] at h2
      refine ⟨wanted_free rfl, gp_storeB row_state (.tmp 4) (.tmp 13) rfl (hk.old 4 (by kernel_rfl)) (hk.slot 13 (by kernel_rfl)) h2 HY.out HEs.out HEo.out ?_⟩
      intro w' hb hs
      exact ⟨trivial, ⟨h1.trans hs, by rw [upd_same]; exact hb⟩, tyP_none rfl _ _⟩
    · exact ⟨wanted_free rfl, gp_assign (.const (.int .i64 0)) rfl ⟨trivial, eatbC_pure hk.inv (Below.refl _ _) (by decide), hk.lit _⟩⟩
  intro δ wa wx hall hC hsame hT
  obtain ⟨hSv, hcE⟩ := hC
  rw [hall 4 (by decide), if_pos rfl] at hcE
  have he := act_same hsame [10, 11, 12, 13, 5] (by kernel_rfl)
  simp only [List.foldl_cons, List.foldl_nil] at he
  rw [show wa.eval (.tmp 10) = _ from hT 10 (by kernel_rfl), show wa.eval (.tmp 11) = _ from hT 11 (by kernel_rfl), show wa.eval (.tmp 12) = _ from hT 12 (by kernel_rfl), show wa.eval (.tmp 13) = _ from hT 13 (by kernel_rfl), show wa.eval (.tmp 5) = _ from hT 5 (by kernel_rfl)] at he
  subst he
  clear hT hsame hall
  go_wp2_with fail
  refine bodyPost_ret (resB2 row_state rfl rfl hcE HEs.out) rfl ⟨rfl, ?_⟩
  exact B0.trans (hSv.below (by omega) (fun j hj => by omega))
end Go.Proofs.Ytiemafgnpmoblaa
