import Derived.Test.YtjlpjkiadohkiaaT13
import Derived.Test.YtjlpjkiadohkiaaT19
set_option linter.unusedSimpArgs false
set_option linter.unusedVariables false
set_option maxHeartbeats 2000000
namespace Go.Proofs.Ytjlpjkiadohkiaa
open Go Go.Ab
attribute [local irreducible] aol
attribute [local irreducible] popN


theorem or0_t (g : Int) : or0 true g = g := rfl
theorem orE_t (l : List Int) : orE true l = l := rfl
end Go.Proofs.Ytjlpjkiadohkiaa
