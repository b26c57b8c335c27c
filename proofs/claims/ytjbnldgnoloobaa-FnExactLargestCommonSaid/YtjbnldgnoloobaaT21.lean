import Derived.Test.YtjbnldgnoloobaaT20
set_option linter.unusedSimpArgs false
set_option linter.unusedVariables false
set_option maxHeartbeats 2000000
namespace Go.Proofs.Ytjbnldgnoloobaa
open Go Go.Ab
attribute [local irreducible] aol


def splPre (n : Int) (l : List Int) (n' : Int) (l' : List Int) (s : Int) : Prop := fnV n l = true ∧ fnV n' l' = true ∧ n' = n ∧ (0 ≤ s ∧ s < 2 ^ n.toNat)
end Go.Proofs.Ytjbnldgnoloobaa
