import Derived.Test.YtjbnldgnoloobaaT10
set_option linter.unusedSimpArgs false
set_option linter.unusedVariables false
set_option maxHeartbeats 2000000
namespace Go.Proofs.Ytjbnldgnoloobaa
open Go Go.Ab
attribute [local irreducible] aol


def rangeL (p : Int → Bool) (n : Nat) : List Int := ((List.range n).filter fun (i : Nat) => p (i : Int)).map fun (i : Nat) => (i : Int)
theorem rangeL_yes {p : Int → Bool} {n : Nat} (h : p (n : Int) = true) : rangeL p (n + 1) = rangeL p n ++ [(n : Int)] := by
  unfold rangeL; rw [List.range_succ, List.filter_append, List.map_append]; simp [h]
theorem rangeL_no {p : Int → Bool} {n : Nat} (h : p (n : Int) = false) : rangeL p (n + 1) = rangeL p n := by
  unfold rangeL; rw [List.range_succ, List.filter_append, List.map_append]; simp [h]
theorem rangeL_len (p : Int → Bool) (n : Nat) : (rangeL p n).length ≤ n := by
  unfold rangeL; rw [List.length_map]; exact Nat.le_trans (List.length_filter_le ..) (by simp)
end Go.Proofs.Ytjbnldgnoloobaa
