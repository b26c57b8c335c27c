import Derived.Test.YtjbnldgnoloobaaT14
import Derived.Test.YtjbnldgnoloobaaT26
set_option linter.unusedSimpArgs false
set_option linter.unusedVariables false
set_option maxHeartbeats 2000000
namespace Go.Proofs.Ytjbnldgnoloobaa
open Go Go.Ab
attribute [local irreducible] aol
attribute [local irreducible] popN


theorem or0_t (g : Int) : or0 true g = g := rfl
end Go.Proofs.Ytjbnldgnoloobaa
