/- Chapter 14's examples, plain: what is to come of them, by the kernel. No condition. -/
import Derived.Test.YtlholdllibghbaaGreatManLaw
namespace Go.Proofs.YtlholdllibghbaaGreat
open Go Go.RowKit Go.Cit

def j9 : I64 := ⟨9, by decide⟩
def cfg14c : Cfg := ⟨[⟨j2, j2⟩], [⟨j1, ⟨j0, j16⟩, false, []⟩], []⟩
def manM : Man := { man14 with ver := j2, prev := mhashK man14 }
def manA : Man := { manM with prev := zeros32 }
def manB : Man := { manM with ver := j1 }
def manC : Man := { manM with cfg := cfg14c }
def manD : Man := { man14 with ver := j0 }
def manF : Man := { man14 with trial := j9 }
set_option maxRecDepth 100000
theorem awk_right : rightK keyS man14 = true := by decide +kernel
theorem awk_m : checkE keyS man14 (mprintK (sealK keyS manM)) = 0 := by decide +kernel
theorem awk_u : checkE keyS man14 (mprintK manM) = 141 := by decide +kernel
theorem awk_a : checkE keyS man14 (mprintK (sealK keyS manA)) = 142 := by decide +kernel
theorem awk_b : checkE keyS man14 (mprintK (sealK keyS manB)) = 143 := by decide +kernel
theorem awk_c : checkE keyS man14 (mprintK (sealK keyS manC)) = 90 := by decide +kernel
theorem awk_e : checkE keyS man14 [] = 140 := by decide +kernel
theorem awk_d : canK manD = false := by decide +kernel
theorem awk_f : canK manF = false := by decide +kernel
end Go.Proofs.YtlholdllibghbaaGreat
