import Derived.Test.YtjlpjkiadohkiaaHs
import Derived.Test.YtjlpjkiadohkiaaT13
set_option linter.unusedSimpArgs false
set_option linter.unusedVariables false
set_option maxHeartbeats 2000000
namespace Go.Proofs.Ytjlpjkiadohkiaa
open Go Go.Ab
attribute [local irreducible] aol


theorem pow_le6 {g : Int} (h : 0 ≤ g ∧ g ≤ 6) : 2 ^ g.toNat ≤ 64 := Nat.le_trans (Nat.pow_le_pow_right (by omega) (show g.toNat ≤ 6 by omega)) (by decide)

end Go.Proofs.Ytjlpjkiadohkiaa
