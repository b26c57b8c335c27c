import Derived.Test.YthoionlldmfpiaaDoorHs
import Derived.Test.YthoionlldmfpiaaDoorT5
set_option linter.unusedSimpArgs false
set_option linter.unusedVariables false
set_option maxHeartbeats 2000000
namespace Go.Proofs.YthoionlldmfpiaaDoor
open Go Go.Ab
attribute [local irreducible] aol
theorem famV_iff {g : Int} {l : List Int} : famV g l = true ↔ (0 ≤ g ∧ g ≤ 6) ∧ l.all (isSet g) = true ∧ incB l = true := by
  unfold famV; rw [Bool.and_eq_true, Bool.and_eq_true, inR_iff]
end Go.Proofs.YthoionlldmfpiaaDoor
