import Derived.Test.YtjbnldgnoloobaaT21
set_option linter.unusedSimpArgs false
set_option linter.unusedVariables false
set_option maxHeartbeats 2000000
namespace Go.Proofs.Ytjbnldgnoloobaa
open Go Go.Ab
attribute [local irreducible] aol
attribute [local irreducible] popN


theorem popN_le (x : Nat) : popN x ≤ 62 := by unfold popN; exact popF_le 62 x
end Go.Proofs.Ytjbnldgnoloobaa
