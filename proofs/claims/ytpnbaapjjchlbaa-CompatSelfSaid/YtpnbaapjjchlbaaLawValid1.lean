/- ValidChecks: the law, whole. -/
import Derived.Test.YtpnbaapjjchlbaaLawValidChecks
import Derived.Test.YtpnbaapjjchlbaaGr
import Derived.Test.YtpnbaapjjchlbaaAwk12
namespace Go.Cit
open Go Go.RowKit
theorem toCfg_img {w : World} {d : shCfg.D} (h : shCfg.ok w d) : ∀ x ∈ (toCfg d).ps, x.img.length ≤ 140737488351232 := by
  obtain ⟨_, h2, _, _⟩ := h
  intro x hx
  obtain ⟨y, hy, rfl⟩ := List.mem_map.1 hx
  obtain ⟨i, hi, rfl⟩ := List.mem_iff_getElem.1 hy
  have h3 := (h2.2.2.2.2 i hi).2
  generalize d.2.1.l[i] = z at h3
  obtain ⟨x1, ⟨x2, x3, ⟨⟩⟩, x4, ⟨a, c, l⟩, ⟨⟩⟩ := z
  obtain ⟨_, _, _, h5, _⟩ := h3
  exact Nat.le_trans h5.1.le h5.2
end Go.Cit
namespace Go.Proofs.Ytpnbaapjjchlbaa
open Go Go.RowKit Go.Cit
theorem validChecks_whole (w : World) (V : CfgV) (h : V.At w) (hb : ∀ x ∈ V.ps, x.img.length ≤ 140737488351232) : Calls Try.prog 3 #[.agg (cCfg V).toArray] w fun e w' => e = .returned (.bool true) ∧ Below w.heap.size w w' :=
  validChecks_law refAll_is awake_is w V h hb
end Go.Proofs.Ytpnbaapjjchlbaa
