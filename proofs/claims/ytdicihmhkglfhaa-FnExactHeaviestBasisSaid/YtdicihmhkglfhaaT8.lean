import Derived.Test.YtdicihmhkglfhaaT7
set_option linter.unusedSimpArgs false
set_option linter.unusedVariables false
set_option maxHeartbeats 2000000
namespace Go.Proofs.Ytdicihmhkglfhaa
open Go Go.Ab
attribute [local irreducible] aol


theorem mem_getD {l : List Int} {x : Int} {k : Nat} (hk : k < l.length) (h : l.getD k 0 = x) : x ∈ l := by
  rw [List.getD_eq_getElem?_getD, List.getElem?_eq_getElem hk] at h
  rw [← h]; exact List.getElem_mem _
def tTrueFL : Tab
  | [.ag [.i _, .sl .i64 _], .sl .i64 _] => some (True, .b true, [])
  | _ => none
end Go.Proofs.Ytdicihmhkglfhaa
