import Derived.Test.YtjbnldgnoloobaaT29
set_option linter.unusedSimpArgs false
set_option linter.unusedVariables false
set_option maxHeartbeats 2000000
namespace Go.Proofs.Ytjbnldgnoloobaa
open Go Go.Ab
attribute [local irreducible] aol
attribute [local irreducible] popN


theorem nfull_all : ((List.range 7).all fun n => (List.range 64).all fun s => !decide (s < 2 ^ n) || decide (nandn (2 ^ n - 1) s = 2 ^ n - 1 - s)) = true := by kernel_rfl
theorem nfull {n s : Nat} (hn : n < 7) (hs : s < 2 ^ n) : nandn (2 ^ n - 1) s = 2 ^ n - 1 - s := by
  have h64 : 2 ^ n ≤ 64 := Nat.le_trans (Nat.pow_le_pow_right (by omega) (show n ≤ 6 by omega)) (by decide)
  have := List.all_eq_true.1 (List.all_eq_true.1 nfull_all n (List.mem_range.2 hn)) s (List.mem_range.2 (by omega))
  rw [decide_eq_true hs, Bool.not_true, Bool.false_or, decide_eq_true_eq] at this
  exact this
end Go.Proofs.Ytjbnldgnoloobaa
