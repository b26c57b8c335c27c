import Derived.Test.YtjbnldgnoloobaaT25
set_option linter.unusedSimpArgs false
set_option linter.unusedVariables false
set_option maxHeartbeats 2000000
namespace Go.Proofs.Ytjbnldgnoloobaa
open Go Go.Ab
attribute [local irreducible] aol
attribute [local irreducible] popN


theorem spl_pre {n n' : Int} {l l' : List Int} {s : Int} (h : areV n l n' l' = true) (hs : 0 ≤ s ∧ s < 2 ^ n.toNat) : splPre n l n' l' s = True := by
  obtain ⟨h1, h2, rfl⟩ := are_iff.1 h
  exact eq_true ⟨mat_fn h1, mat_fn h2, rfl, hs⟩
end Go.Proofs.Ytjbnldgnoloobaa
