import Derived.Test.YtkkmjpeolfmapaaT9
set_option linter.unusedSimpArgs false
set_option linter.unusedVariables false
set_option maxHeartbeats 2000000
namespace Go.Proofs.Ytkkmjpeolfmapaa
open Go Go.Ab
attribute [local irreducible] aol


def or0 (b : Bool) (g : Int) : Int := if b then g else 0
end Go.Proofs.Ytkkmjpeolfmapaa
