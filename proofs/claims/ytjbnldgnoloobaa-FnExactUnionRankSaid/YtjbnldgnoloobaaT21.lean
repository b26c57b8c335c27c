import Derived.Test.YtjbnldgnoloobaaT20
set_option linter.unusedSimpArgs false
set_option linter.unusedVariables false
set_option maxHeartbeats 2000000
namespace Go.Proofs.Ytjbnldgnoloobaa
open Go Go.Ab
attribute [local irreducible] aol


theorem nandn_sub : ∀ s < 64, ∀ x < 64, x &&& s = x → nandn s x = s - x := by decide +kernel
theorem iandn_zero' {x s : Nat} (hx : x < 64) (hs : s < 64) : iandn (x : Int) (s : Int) = 0 ↔ iand (x : Int) (s : Int) = x := by
  rw [iandn_nat (by omega) (by omega), iand_nat (by omega) (by omega), Int.natCast_inj, ← nandn_zero]; omega
theorem iandn_sub {x s : Nat} (hx : x < 64) (hs : s < 64) (h : iandn (x : Int) (s : Int) = 0) : iandn (s : Int) (x : Int) = (s : Int) - (x : Int) := by
  rw [iandn_zero' hx hs, iand_nat (by omega) (by omega), Int.natCast_inj] at h
  rw [iandn_nat (by omega) (by omega), nandn_sub s hs x hx h]
  have : x ≤ s := by rw [← h]; exact Nat.and_le_right
  omega
def splPre (n : Int) (l : List Int) (n' : Int) (l' : List Int) (s : Int) : Prop := fnV n l = true ∧ fnV n' l' = true ∧ n' = n ∧ (0 ≤ s ∧ s < 2 ^ n.toNat)
end Go.Proofs.Ytjbnldgnoloobaa
