import Derived.Test.YtdicihmhkglfhaaT21
set_option linter.unusedSimpArgs false
set_option linter.unusedVariables false
set_option maxHeartbeats 2000000
namespace Go.Proofs.Ytdicihmhkglfhaa
open Go Go.Ab
attribute [local irreducible] aol
attribute [local irreducible] popN


theorem cbF_lt (n : Int) : cbF n + 1 = 2 ^ n.toNat := by have := Nat.two_pow_pos n.toNat; unfold cbF; omega
end Go.Proofs.Ytdicihmhkglfhaa
