import Derived.Test.YtdicihmhkglfhaaT4
set_option linter.unusedSimpArgs false
set_option linter.unusedVariables false
set_option maxHeartbeats 2000000
namespace Go.Proofs.Ytdicihmhkglfhaa
open Go Go.Ab
attribute [local irreducible] aol


/-- Each is smaller than the next. -/
def incB (l : List Int) : Bool := (List.range (l.length - 1)).all fun k => decide (l.getD k 0 < l.getD (k + 1) 0)
theorem inc_true {l : List Int} (h : ∀ j, j + 1 < l.length → l.getD j 0 < l.getD (j + 1) 0) : incB l = true := by
  unfold incB
  rw [List.all_eq_true]
  intro k hk
  rw [List.mem_range] at hk
  exact decide_eq_true (h k (by omega))
end Go.Proofs.Ytdicihmhkglfhaa
