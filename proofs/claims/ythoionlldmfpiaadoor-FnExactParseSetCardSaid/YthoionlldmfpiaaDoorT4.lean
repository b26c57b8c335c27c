import Derived.Test.YthoionlldmfpiaaDoorHs
import Derived.Test.YthoionlldmfpiaaDoorT3
set_option linter.unusedSimpArgs false
set_option linter.unusedVariables false
set_option maxHeartbeats 2000000
namespace Go.Proofs.YthoionlldmfpiaaDoor
open Go Go.Ab
attribute [local irreducible] aol
theorem fin_own {C : Cfg} {t : Tmp} {j : Nat} {k : IntKind} {E : TypeId} {l : List Int} {s : ASt} (h : nth s.fr t = .own j) (hh : s.hp[j]? = some (.row k E l)) : FinS C [.tmp t] (.own 0) [.row k E l] s :=
  ⟨s, Wk.refl s, _, _, rfl, ⟨trivial, trivial⟩, [j], by simp, by rw [h]; rfl, by simp [hh, AO.ren]⟩
end Go.Proofs.YthoionlldmfpiaaDoor
