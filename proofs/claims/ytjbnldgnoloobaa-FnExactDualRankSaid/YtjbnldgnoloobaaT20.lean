import Derived.Test.YtjbnldgnoloobaaT13
import Derived.Test.YtjbnldgnoloobaaT19
set_option linter.unusedSimpArgs false
set_option linter.unusedVariables false
set_option maxHeartbeats 2000000
namespace Go.Proofs.Ytjbnldgnoloobaa
open Go Go.Ab
attribute [local irreducible] aol


theorem mat_fn {n : Int} {l : List Int} (h : matV n l = true) : fnV n l = true := by
  unfold matV at h; rw [Bool.and_eq_true] at h; exact pol_fn h.1
theorem set_fn {n s : Int} {l : List Int} (h : fnV n l = true ∧ 0 ≤ s ∧ s < 2 ^ n.toNat) : s < l.length ∧ s < 64 := by
  have hl := fnV_len h.1
  have hf := (fnV_iff.1 h.1).1
  have hp6 : 2 ^ n.toNat ≤ 32 := Nat.le_trans (Nat.pow_le_pow_right (by omega) (show n.toNat ≤ 5 by omega)) (by decide)
  have hpw := pow_nat n.toNat
  omega
end Go.Proofs.Ytjbnldgnoloobaa
