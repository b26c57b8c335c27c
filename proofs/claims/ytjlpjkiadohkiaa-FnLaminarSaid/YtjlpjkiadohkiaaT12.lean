import Derived.Test.YtjlpjkiadohkiaaT11
set_option linter.unusedSimpArgs false
set_option linter.unusedVariables false
set_option maxHeartbeats 2000000
namespace Go.Proofs.Ytjlpjkiadohkiaa
open Go Go.Ab
attribute [local irreducible] aol


def fnV (n : Int) (l : List Int) : Bool := inR n 0 5 && (decide ((l.length : Int) = 2 ^ n.toNat) && l.all fun x => inR x (-1000) 1000)
theorem pow5 {m : Nat} (h : m ≤ 62) : 2 ^ m ≤ 4611686018427387904 := Nat.le_trans (Nat.pow_le_pow_right (by omega) h) (by decide)
def grV (n : Int) (l : List Int) : Bool := fnV n l && decide (l.getD 0 0 = 0)
end Go.Proofs.Ytjlpjkiadohkiaa
