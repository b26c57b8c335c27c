import Derived.Test.YtdicihmhkglfhaaT11
set_option linter.unusedSimpArgs false
set_option linter.unusedVariables false
set_option maxHeartbeats 2000000
namespace Go.Proofs.Ytdicihmhkglfhaa
open Go Go.Ab
attribute [local irreducible] aol


theorem pow5 {m : Nat} (h : m ≤ 62) : 2 ^ m ≤ 4611686018427387904 := Nat.le_trans (Nat.pow_le_pow_right (by omega) h) (by decide)
end Go.Proofs.Ytdicihmhkglfhaa
