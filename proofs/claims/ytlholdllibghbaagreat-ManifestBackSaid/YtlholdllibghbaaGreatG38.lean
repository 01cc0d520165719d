/- Texts of the proof, one behind the other: ManPlain, ManArg. No condition but those that each names. -/
import Derived.Test.YtlholdllibghbaaGreatManChk
import Derived.Test.YtlholdllibghbaaGreatG20
import Derived.Test.YtlholdllibghbaaGreatMan
import Derived.Test.YtlholdllibghbaaGreatG21
/- Manifests as bytes: the plain laws of chapter 14. No condition. -/
namespace Go.Proofs.YtlholdllibghbaaGreat
open Go Go.RowKit Go.Cit

theorem tag_front (t r : List UInt8) (h : t.length = 32) : St.tag ⟨t ++ r, 0⟩ = (t, ⟨r, 0⟩) := read_front t r 32 fTag zeros32 h rfl
theorem eats_tag : Eats St.tag (fun t => t) := by
  intro s h
  by_cases he : s.e = 0
  · rcases read_zero (n := 32) (f := fTag) (z := zeros32) he with ⟨hn, _, hr⟩ | hr
    · refine ⟨he, ?_⟩
      show s.l = (St.read s 32 fTag zeros32).1 ++ (St.read s 32 fTag zeros32).2.l
      rw [hr]
      exact (List.take_append_drop 32 s.l).symm
    · exfalso
      have : (St.read s 32 fTag zeros32).2.e = 0 := h
      rw [hr] at this; exact absurd this (by decide)
  · exact absurd h (read_bad_e he)
theorem par_E {l : List UInt8} : parE l = 0 ↔ parOk l = true := by
  unfold parE; cases parOk l <;> simp
theorem cprint_par {l : List UInt8} (h : parOk l = true) : cprintK (parK l) = l := by
  obtain ⟨h1, h2⟩ := par_back h
  unfold cprintK parK
  rw [if_pos h, if_pos h2, ← h1]
theorem canK_spec {K : Man} (h : canK K = true) : canC K.cfg = true := by unfold canK at h; rw [Bool.and_eq_true] at h; exact h.2
theorem man_front {K : Man} (h : canK K = true) (hp : K.prev.length = 32) (ht : K.tag.length = 32) : readM (mprintK K) = K ∧ mparOk (mprintK K) = true := by
  have hc := canK_spec h
  have hf := form_len hc
  have he : mprintK K = int8 K.ver.1 ++ (K.prev ++ (int8 K.trial.1 ++ (withB (formK K.cfg) ++ (K.tag ++ [])))) := by
    unfold mprintK headK cprintK
    rw [if_pos h, if_pos hc]
    simp
  have hl : (mprintK K).length ≤ 65536 := by
    rw [he]
    simp only [List.length_append, int8_len, hp, ht, withB_length, List.length_nil]; omega
  have hn : St.new (mprintK K) = ⟨mprintK K, 0⟩ := by unfold St.new; rw [if_pos hl]
  have e1 : mp1 (mprintK K) = (K.ver, ⟨K.prev ++ (int8 K.trial.1 ++ (withB (formK K.cfg) ++ (K.tag ++ []))), 0⟩) := by
    unfold mp1; rw [hn, he]; exact int_front _ _
  have e2 : mp2 (mprintK K) = (K.prev, ⟨int8 K.trial.1 ++ (withB (formK K.cfg) ++ (K.tag ++ [])), 0⟩) := by
    unfold mp2; rw [e1]; exact tag_front _ _ hp
  have e3 : mp3 (mprintK K) = (K.trial, ⟨withB (formK K.cfg) ++ (K.tag ++ []), 0⟩) := by
    unfold mp3; rw [e2]; exact int_front _ _
  have e4 : mp4 (mprintK K) = (formK K.cfg, ⟨K.tag ++ [], 0⟩) := by
    unfold mp4; rw [e3]; exact bytes_front _ _ (by omega)
  have e5 : mp5 (mprintK K) = (K.tag, ⟨[], 0⟩) := by
    unfold mp5; rw [e4]; exact tag_front _ _ ht
  obtain ⟨p1, p2⟩ := par_form hc
  have hr : readM (mprintK K) = K := by
    unfold readM
    rw [e1, e2, e3, e4, e5]
    dsimp only
    unfold parK
    rw [p2, if_pos rfl, p1]
  refine ⟨hr, ?_⟩
  unfold mparOk
  rw [hr, h, e5, e4, par_E.2 p2]
  rfl
theorem man_back {l : List UInt8} (h : mparOk l = true) : mprintK (readM l) = l := by
  unfold mparOk at h
  simp only [Bool.and_eq_true, decide_eq_true_eq] at h
  obtain ⟨⟨h1, h2⟩, h3⟩ := h
  obtain ⟨z1, z2⟩ := fin_zero h1
  have g5 := eats_tag (mp4 l).2 z1
  have g4 := eats_bytes (mp3 l).2 g5.1
  have g3 := eats_int (mp2 l).2 g4.1
  have g2 := eats_tag (mp1 l).2 g3.1
  have g1 := eats_int (St.new l) g2.1
  have hn : (St.new l).l = l := by
    have := g1.1
    unfold St.new at this ⊢
    split
    · rfl
    · rename_i hh; rw [if_neg hh] at this; exact absurd this (by decide)
  have hx := cprint_par (par_E.1 h2)
  have e5 : (mp4 l).2.l = (mp5 l).1 := by have := g5.2; rw [show (St.tag (mp4 l).2).2.l = [] from z2, List.append_nil] at this; exact this
  have e4 : (mp3 l).2.l = withB (mp4 l).1 ++ (mp5 l).1 := by rw [← e5]; exact g4.2
  have e3 : (mp2 l).2.l = int8 (mp3 l).1.1 ++ (withB (mp4 l).1 ++ (mp5 l).1) := by rw [← e4]; exact g3.2
  have e2 : (mp1 l).2.l = (mp2 l).1 ++ (int8 (mp3 l).1.1 ++ (withB (mp4 l).1 ++ (mp5 l).1)) := by rw [← e3]; exact g2.2
  have e1 : l = int8 (mp1 l).1.1 ++ ((mp2 l).1 ++ (int8 (mp3 l).1.1 ++ (withB (mp4 l).1 ++ (mp5 l).1))) := by rw [← e2]; exact hn.symm.trans g1.2
  unfold mprintK
  rw [if_pos h3]
  unfold headK readM
  dsimp only
  rw [hx]
  conv => rhs; rw [e1]
  simp
theorem seal_can (key : List UInt8) (K : Man) : canK (sealK key K) = canK K := rfl
theorem seal_right {key : List UInt8} {K : Man} (h : canK K = true) : rightK key (sealK key K) = true := by
  unfold rightK
  rw [seal_can, h]
  unfold sealK
  rw [if_pos h]
  simp only [Bool.true_and, decide_eq_true_eq]
  rfl
theorem mparE_ok {l : List UInt8} : mparE l = 0 ↔ mparOk l = true := by unfold mparE; cases mparOk l <;> simp
end Go.Proofs.YtlholdllibghbaaGreat

/- A manifest that came in; a guarded load. No condition. -/
namespace Go.Proofs.YtlholdllibghbaaGreat
open Go Go.RowKit Go.Cit
theorem exec_loadv {P : Program} {w : World} {o : Oper} {ρ : Operand → Value} {T : TypeId} {x : Operand} {p v : Value} (h : o.op = .load T x) (hx : ρ x = p) (hr : (Instr.loadAt T p).run P w = .ok v w) : (execOp ρ o).run P w = .ok (.value v) w := by
  unfold execOp; rw [h]; dsimp only; rw [hx, Sem.run_bind, hr]; rfl
theorem toMan_img {w : World} {d : shMan.D} (h : shMan.ok w d) : ∀ x ∈ (toMan d).cfg.ps, x.img.length ≤ 140737488351232 := toCfg_img h.2.2.2.1
end Go.Proofs.YtlholdllibghbaaGreat

