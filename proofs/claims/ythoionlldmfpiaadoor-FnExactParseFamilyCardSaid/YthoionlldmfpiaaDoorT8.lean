import Derived.Test.YthoionlldmfpiaaDoorHs
import Derived.Test.YthoionlldmfpiaaDoorT6
set_option linter.unusedSimpArgs false
set_option linter.unusedVariables false
set_option maxHeartbeats 2000000
namespace Go.Proofs.YthoionlldmfpiaaDoor
open Go Go.Ab
attribute [local irreducible] aol
theorem inc_step {l : List Int} (h : incB l = true) {j : Nat} (hj : j + 1 < l.length) : l.getD j 0 < l.getD (j + 1) 0 := by
  unfold incB at h
  rw [List.all_eq_true] at h
  exact of_decide_eq_true (h j (List.mem_range.2 (by omega)))
theorem inc_lt {l : List Int} (h : incB l = true) {i : Nat} : ∀ {j : Nat}, i < j → j < l.length → l.getD i 0 < l.getD j 0
  | 0, h1, _ => by omega
  | j + 1, h1, h2 => by
    have h3 := inc_step h h2
    by_cases e : i = j
    · subst e; exact h3
    · have := inc_lt h (i := i) (j := j) (by omega) (by omega); omega
end Go.Proofs.YthoionlldmfpiaaDoor
