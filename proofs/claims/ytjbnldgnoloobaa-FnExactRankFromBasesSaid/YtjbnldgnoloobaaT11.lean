import Derived.Test.YtjbnldgnoloobaaT10
set_option linter.unusedSimpArgs false
set_option linter.unusedVariables false
set_option maxHeartbeats 2000000
namespace Go.Proofs.Ytjbnldgnoloobaa
open Go Go.Ab
attribute [local irreducible] aol


theorem isSet_range {g : Int} (h0 : 0 ≤ g) {x : Int} : isSet g x = true ↔ 0 ≤ x ∧ x < ((2 ^ g.toNat : Nat) : Int) := by
  rw [isSet_iff]; simp
end Go.Proofs.Ytjbnldgnoloobaa
