/- Texts of the proof, one behind the other: Ints, RefForm, RowsOwn, CatTwo. No condition but those that each names. -/
import Derived.Test.YtlholdllibghbaaGreatG26
import Derived.Lib.ConvBytes
import Derived.Deep.AppendSrc
import Derived.Deep.MidRow
import Derived.Deep.Upon
import Derived.Test.YtlholdllibghbaaGreatG01
import Derived.Test.YtlholdllibghbaaGreatG22
import Derived.Test.YtlholdllibghbaaGreatG02
import Derived.Test.YtlholdllibghbaaGreatG04
/- Slices of ints; a string's bytes. -/
namespace Go.Proofs.YtlholdllibghbaaGreat
open Go Go.RowKit Go.Cit

structure Ints (w : World) (a : Option Addr) (zs : List Int) (cap : Nat) : Prop where
  le : zs.length ≤ cap
  top : cap ≤ maxLen
  spot : zs ≠ [] → ∃ b off, a = some ⟨b, off, none⟩
  cell : ∀ i (h : i < zs.length), w.cell? (ad a i) = some (.int .i64 zs[i])
  rng : ∀ i (h : i < zs.length), -9223372036854775808 ≤ zs[i] ∧ zs[i] ≤ 9223372036854775807
theorem Ints.len_le {w a zs cap} (h : Ints w a zs cap) : zs.length ≤ 9223372036854775807 := by
  have h1 := h.le; have h2 := h.top; unfold maxLen at h2; omega
theorem Ints.stay {w w' : World} {a zs cap} (h : Ints w a zs cap) (hb : Below w.heap.size w w') : Ints w' a zs cap :=
  ⟨h.le, h.top, h.spot, fun i hi => (hb.cell (World.block_lt_of_cell? w _ (h.cell i hi))).trans (h.cell i hi), h.rng⟩
theorem szI : ∀ w, (sizeOf 3).run Tryz.prog w = .ok 1 w := by intro w; kernel_rfl
theorem Ints.index {w a zs cap} (h : Ints w a zs cap) (i : Nat) (hi : i < zs.length) :
    ∀ w, (Instr.indexAt 199 (.slice a zs.length cap) (.int .i64 (i : Int))).run Tryz.prog w = .ok (.pointer (some (ad a i))) w := by
  intro w
  obtain ⟨b, off, rfl⟩ := h.spot (by intro h0; simp [h0] at hi)
  have hT : Tryz.prog.underlying 199 = some (.slice 3) := Tryz.underlying199
  have he : Tryz.prog.elem 199 = 3 := by simp [Program.elem, hT]
  rw [run_indexAt_slice w _ _ _ _ _ _ (by rw [he]; exact hT), if_pos (by omega), he, szI]
  simp only [Result.andThen, ad, Addr.add]
  by_cases h0 : i = 0
  · subst h0; simp
  · simp [h0]

theorem hstring_bytes (w : World) (l : List UInt8) (hl : l.length ≤ 1000000000) : ∃ c w', (convert 9 40 (.string ⟨l.toArray⟩)).run Tryz.prog w = .ok (.slice (some ⟨w.heap.size, 0, none⟩) l.length c) w' ∧ Row w' (some ⟨w.heap.size, 0, none⟩) l c ∧ Below w.heap.size w w' := by
  have hr := Lib.run_convert_string_bytes (P := Tryz.prog) w 9 40 5 ⟨l.toArray⟩ Tryz.underlying9 Tryz.underlying40 Tryz.underlying5
  have hz : (⟨l.toArray⟩ : ByteArray).size = l.length := by simp [ByteArray.size]
  refine ⟨_, _, by rw [hz] at hr; exact hr, ⟨by rw [← hz]; exact grownCap_ge _ _ _ _, grownCap_le_maxLen _ _ _ _ (by unfold maxLen; omega), fun h => by simp at h, fun _ => ⟨_, _, rfl⟩, fun i hi => ?_⟩, ⟨?_, ?_, ?_, ?_, fun k hk => Lib.bytesWorld_at_old w _ _ k hk⟩⟩
  · simp only [ad, Nat.zero_add]
    rw [Lib.bytesWorld_cell w _ _ i (by rw [hz]; exact hi)]
    simp [List.getD, hi]
  · unfold Lib.bytesWorld World.freeze; split <;> rfl
  · unfold Lib.bytesWorld World.freeze; split <;> rfl
  · unfold Lib.bytesWorld World.freeze; split <;> rfl
  · rw [Lib.bytesWorld_size]; omega
end Go.Proofs.YtlholdllibghbaaGreat

/- The reference's Form: a label, a zero, the numbers. Walked. -/
namespace Go.Cit
open Go Go.RowKit
end Go.Cit
namespace Go.Proofs.YtlholdllibghbaaGreat
open Go Go.RowKit Go.Cit

def qOf (z : Int) : UInt64 := UInt64.ofNat (z % 18446744073709551616).toNat
theorem conv_q (z : Int) : IntKind.u64.wrap z = ((qOf z).toNat : Int) := by
  unfold qOf
  have h1 : IntKind.u64.wrap z = z % 18446744073709551616 := by simp [IntKind.wrap, IntKind.signed, IntKind.bits]
  rw [h1]
  have h2 : (z % 18446744073709551616).toNat < 18446744073709551616 := by omega
  have h3 : (UInt64.ofNat (z % 18446744073709551616).toNat).toNat = (z % 18446744073709551616).toNat := by simp; omega
  rw [h3]
  omega
def formB (s : List UInt8) (zs : List Int) : List UInt8 := s ++ [0] ++ (zs.map fun z => rowB (qOf z) 8).flatten
end Go.Proofs.YtlholdllibghbaaGreat

/- Slices of rows of one's own; such an argument opened. -/
namespace Go.Proofs.YtlholdllibghbaaGreat
open Go Go.RowKit Go.Cit

@[reducible] def sf (d : Sl UInt8) : List Value := [sv d]
theorem sf_len : ∀ d, (sf d).length = 1 := fun _ => rfl
theorem sf_one : ∀ d, ∀ u ∈ sf d, u.oneCell' = true := by intro d u hu; obtain rfl : u = sv d := by simpa using hu
                                                          rfl
@[reducible] def nilD : Sl UInt8 := ⟨none, 0, []⟩
theorem rowsT : ElemType Tryz.prog 49 40 1 24 (sv nilD) := ⟨Tryz.underlying49, infoRow, szRow, rfl, by decide, by decide⟩
theorem Rows.vec {w : World} {a : Option Addr} {ds : List (Sl UInt8)} {c : Nat} (h : Rows w a ds c) : Vec sf 1 w a ds c := Vec.of1 (v := sv) h.le h.top h.nil h.spot h.cell
end Go.Proofs.YtlholdllibghbaaGreat

/- words.Cat of two parts (a copy out of LawShaChained, for a seat that does not hold it). -/
namespace Go.Proofs.YtlholdllibghbaaGreat
open Go Go.RowKit Go.Cit

theorem cat_two (W : World) (g : Nat) {a1 a2 : Option Addr} {l1 l2 : List UInt8} {c1 c2 : Nat} (h1 : W.cell? ⟨g, 0, none⟩ = some (.slice a1 l1.length c1)) (h2 : W.cell? ⟨g, 1, none⟩ = some (.slice a2 l2.length c2)) (r1 : Row W a1 l1 c1) (r2 : Row W a2 l2 c2) (hl : l1.length ≤ 300000000) (hl2 : l2.length ≤ 300000000) :
    Calls Tryz.prog 110 #[.slice (some ⟨g, 0, none⟩) 2 2] W fun e w' => ∃ a cp, e = .returned (.slice a (l1 ++ l2).length cp) ∧ Mine W.heap.size w' a (l1 ++ l2) cp ∧ Below W.heap.size W w' := by
  have hP : Lib.PartsAt W ⟨g, 0, none⟩ [.slice a1 l1.length c1, .slice a2 l2.length c2] [l1, l2] := by
    refine ⟨rfl, fun i v hv => ?_, fun i v l hv hl => ?_⟩
    · match i with
      | 0 => simp at hv; subst hv; simpa [Addr.add] using h1
      | 1 => simp at hv; subst hv; simpa [Addr.add] using h2
      | i + 2 => simp at hv
    · match i with
      | 0 => simp at hv hl; subst hv hl; exact holds_of_row r1
      | 1 => simp at hv hl; subst hv hl; exact holds_of_row r2
      | i + 2 => simp at hv
  refine (cat_calls W g 0 2 _ _ hP (by simp) (by simp; omega) (by simp)).mono ?_
  rintro e w' ⟨a, cp, rfl, hm, hb⟩
  simp only [List.flatten_cons, List.flatten_nil, List.append_nil] at hm ⊢
  exact ⟨a, cp, rfl, hm, hb⟩
end Go.Proofs.YtlholdllibghbaaGreat

