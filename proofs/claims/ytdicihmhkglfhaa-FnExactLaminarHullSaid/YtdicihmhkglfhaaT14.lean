import Derived.Test.YtdicihmhkglfhaaT13
set_option linter.unusedSimpArgs false
set_option linter.unusedVariables false
set_option maxHeartbeats 2000000
namespace Go.Proofs.Ytdicihmhkglfhaa
open Go Go.Ab
attribute [local irreducible] aol


theorem orE_le {b : Bool} {l : List Int} {m : Nat} (h : b = true → l.length ≤ m) : (orE b l).length ≤ m := by
  cases b with
  | false => exact Nat.zero_le _
  | true => exact h rfl

end Go.Proofs.Ytdicihmhkglfhaa
