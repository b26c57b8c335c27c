import Derived.Test.YtjbnldgnoloobaaT21
set_option linter.unusedSimpArgs false
set_option linter.unusedVariables false
set_option maxHeartbeats 2000000
namespace Go.Proofs.Ytjbnldgnoloobaa
open Go Go.Ab
attribute [local irreducible] aol


theorem pol_iff {n : Int} {l : List Int} : polV n l = true ↔ fnV n l = true ∧ l.getD 0 0 = 0 ∧ incrV n l = true ∧ subV n l = true := by
  unfold polV grV; simp only [Bool.and_eq_true, decide_eq_true_eq]
  constructor
  · rintro ⟨⟨h1, h2⟩, ⟨h3, h4⟩, h5⟩; exact ⟨h1, h2, h4, h5⟩
  · rintro ⟨h1, h2, h3, h4⟩; exact ⟨⟨h1, h2⟩, ⟨h1, h3⟩, h4⟩
theorem cbF_lt (n : Int) : cbF n + 1 = 2 ^ n.toNat := by have := Nat.two_pow_pos n.toNat; unfold cbF; omega
end Go.Proofs.Ytjbnldgnoloobaa
