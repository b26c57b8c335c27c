import Derived.Test.YtkkmjpeolfmapaaT11
set_option linter.unusedSimpArgs false
set_option linter.unusedVariables false
set_option maxHeartbeats 2000000
namespace Go.Proofs.Ytkkmjpeolfmapaa
open Go Go.Ab
attribute [local irreducible] aol


theorem pow_nat (n : Nat) : (2 : Int) ^ n = ((2 ^ n : Nat) : Int) := by simp
end Go.Proofs.Ytkkmjpeolfmapaa
