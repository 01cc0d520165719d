/- From the rows' reading of an argument to the walks' own words. No condition. -/
import Derived.Test.YtofagofpeedfcaaOwn
import Derived.OpenShut
namespace Go.Cit
open Go Go.RowKit

theorem u8_of_wf {n : Int} (h : (Lit.int .u8 n).wf = true) : ∃ x : UInt8, n = x.toNat := by
  have hb := bounds_u8 h
  exact ⟨UInt8.ofNat n.toNat, by rw [UInt8.toNat_ofNat_of_lt' (by show _ < 256; omega)]; omega⟩
theorem u32_of_wf {n : Int} (h : (Lit.int .u32 n).wf = true) : ∃ x : UInt32, n = x.toNat := by
  have hb := bounds_u32 h
  exact ⟨UInt32.ofNat n.toNat, by rw [UInt32.toNat_ofNat_of_lt' (by show _ < 4294967296; omega)]; omega⟩
theorem u64_of_wf {n : Int} (h : (Lit.int .u64 n).wf = true) : ∃ x : UInt64, n = x.toNat := by
  have hb := bounds_u64 h
  exact ⟨UInt64.ofNat n.toNat, by rw [UInt64.toNat_ofNat_of_lt' (by show _ < 18446744073709551616; omega)]; omega⟩
theorem i64_of_wf {n : Int} (h : (Lit.int .i64 n).wf = true) : -9223372036854775808 ≤ n ∧ n ≤ 9223372036854775807 := bounds_i64 h

theorem bytes_of_wf : ∀ (zs : List Int), (∀ n ∈ zs, (Lit.int .u8 n).wf = true) → ∃ l : List UInt8, zs = l.map (fun x => (x.toNat : Int))
  | [], _ => ⟨[], rfl⟩
  | z :: zs, h => by
    obtain ⟨x, hx⟩ := u8_of_wf (h z (by simp))
    obtain ⟨l, hl⟩ := bytes_of_wf zs (fun n hn => h n (by simp [hn]))
    exact ⟨x :: l, by simp [hx, hl]⟩

theorem row_of {w : World} {a : Option Addr} {len cap : Nat} {zs : List Int}
    (h : (a = none ∧ len = 0 ∧ cap = 0 ∧ zs = []) ∨
      ∃ x, a = some x ∧ len ≤ cap ∧ cap ≤ maxLen ∧ zs.length = cap ∧ (∀ i, i < zs.length → w.cell? (x.add i) = some (.int .u8 (zs.getD i 0))) ∧ ∀ n ∈ zs, (Lit.int .u8 n).wf = true) :
    ∃ l : List UInt8, len = l.length ∧ Row w a l cap := by
  rcases h with ⟨rfl, rfl, rfl, rfl⟩ | ⟨x, rfl, hle, hm, hz, hc, hwf⟩
  · exact ⟨[], rfl, Row.nil_ w⟩
  · obtain ⟨l, rfl⟩ := bytes_of_wf zs hwf
    rw [List.length_map] at hz hc
    have hlen : (l.take len).length = len := by rw [List.length_take]; omega
    refine ⟨l.take len, hlen.symm, by rw [hlen]; exact hle, hm, fun h => by simp at h, fun hne => ?_, fun i hi => ?_⟩
    · have h0 : 0 < l.length := by
        rcases Nat.eq_zero_or_pos l.length with h | h
        · exact absurd (by rw [List.eq_nil_of_length_eq_zero h]; simp) hne
        · exact h
      have := World.cell?_spot (hc 0 h0)
      obtain ⟨b, off, sp⟩ := x
      simp [Addr.add] at this
      exact ⟨b, off, by rw [this]⟩
    · rw [hlen] at hi
      have hi' : i < l.length := by omega
      have h1 := hc i hi'
      have hs := World.cell?_spot h1
      obtain ⟨b, off, sp⟩ := x
      have e : (⟨b, off, sp⟩ : Addr).add i = ad (some ⟨b, off, sp⟩) i := by
        unfold Addr.add ad
        by_cases h0 : i = 0
        · subst h0; simp [Addr.add] at hs; simp [hs]
        · simp [h0]
      rw [← e, h1]
      simp [hi']
end Go.Cit
