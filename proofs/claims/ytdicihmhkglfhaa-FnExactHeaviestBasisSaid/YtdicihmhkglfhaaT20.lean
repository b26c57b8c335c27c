import Derived.Test.YtdicihmhkglfhaaT13
import Derived.Test.YtdicihmhkglfhaaT19
set_option linter.unusedSimpArgs false
set_option linter.unusedVariables false
set_option maxHeartbeats 2000000
namespace Go.Proofs.Ytdicihmhkglfhaa
open Go Go.Ab
attribute [local irreducible] aol


theorem mat_fn {n : Int} {l : List Int} (h : matV n l = true) : fnV n l = true := by
  unfold matV at h; rw [Bool.and_eq_true] at h; exact pol_fn h.1
end Go.Proofs.Ytdicihmhkglfhaa
