/- What valid says hangs on the configuration alone, not on where it lies. -/
import Derived.Test.YtpnbaapjjchlbaaVChk
namespace Go.Proofs.Ytpnbaapjjchlbaa
open Go Go.RowKit Go.Cit

def bareP (p : Pt) : PtV := ⟨p.id, p.reg, p.keep, none, p.img, 0⟩
def bareV (V : CfgV) : CfgV := { V with wa := none, wc := 0, pa := none, ps := V.ps.map fun x => bareP x.pt, pc := 0, ca := none, cc := 0 }
theorem hasP_bare (ps : List PtV) (id : Int) : hasP (ps.map fun x => bareP x.pt) id = hasP ps id := by
  unfold hasP; rw [List.any_map]; rfl
theorem getP_bare (ps : List PtV) (id : Int) : getP (ps.map fun x => bareP x.pt) id = getP ps id := by
  unfold getP
  rw [List.find?_map]
  have : ((fun x : PtV => decide (x.id.1 = id)) ∘ fun x : PtV => bareP x.pt) = fun x : PtV => decide (x.id.1 = id) := rfl
  rw [this]
  cases ps.find? fun x => decide (x.id.1 = id) <;> rfl
theorem regionsBad_bare (ps : List PtV) : regionsBad (ps.map fun x => bareP x.pt) = regionsBad ps := by
  unfold regionsBad; rw [List.any_map]; rfl
theorem ascP_bare (ps : List PtV) : ∀ m, ascP m (ps.map fun x => bareP x.pt) = ascP m ps := by
  induction ps with
  | nil => intro m; rfl
  | cons x ps ih => intro m; rw [List.map_cons]; unfold ascP; rw [ih]; rfl
theorem okRegs_bare (ps : List PtV) : okRegs (ps.map fun x => bareP x.pt) = okRegs ps := by
  unfold okRegs
  rw [List.filter_map, List.map_map]
  rfl
theorem errs_bare (V : CfgV) : errs (bareV V) = errs V := by
  have h1 : windowsBad (bareV V) = windowsBad V := by
    unfold windowsBad
    congr 2
    funext x
    simp [winBad, bareV, hasP_bare]
  have h2 : partsBad (bareV V).ps = partsBad V.ps := by
    unfold partsBad bareV
    dsimp only
    rw [ascP_bare, List.length_map]
  have h3 : regionsBad (bareV V).ps = regionsBad V.ps := regionsBad_bare V.ps
  have h4 : overlapBad (bareV V).ps = overlapBad V.ps := by
    unfold overlapBad bareV
    dsimp only
    rw [okRegs_bare]
  have h5 : channelsBad (bareV V) = channelsBad V := by
    have e : chBad (bareV V) = chBad V := by
      funext x
      simp [chBad, bareV, hasP_bare]
    unfold channelsBad
    rw [e]
    rfl
  unfold errs errsTo bads
  rw [h1, h2, h3, h4, h5]
theorem errs_cfg {V U : CfgV} (h : U.cfg = V.cfg) : errs U = errs V := by
  rw [← errs_bare U, ← errs_bare V]
  congr 1
  simp only [CfgV.cfg, Cfg.mk.injEq] at h
  obtain ⟨h1, h2, h3⟩ := h
  unfold bareV
  have e : (U.ps.map fun x => bareP x.pt) = (V.ps.map fun x => bareP x.pt) := by
    have := congrArg (List.map bareP) h2
    rw [List.map_map, List.map_map] at this
    exact this
  rw [h1, h3, e]
end Go.Proofs.Ytpnbaapjjchlbaa
