import Derived.Test.YtjlpjkiadohkiaaHs
import Derived.Test.YtjlpjkiadohkiaaT17
set_option linter.unusedSimpArgs false
set_option linter.unusedVariables false
set_option maxHeartbeats 2000000
namespace Go.Proofs.Ytjlpjkiadohkiaa
open Go Go.Ab
attribute [local irreducible] aol


theorem ibit_all : ((List.range 64).all fun s => (List.range 7).all fun e => decide (iand (ishr (s : Int) (e : Int)) 1 = if Nat.testBit s e then 1 else 0)) = true := by kernel_rfl
theorem ibit {s e : Nat} (hs : s < 64) (he : e < 7) : iand (ishr (s : Int) (e : Int)) 1 = if Nat.testBit s e then 1 else 0 := of_decide_eq_true (List.all_eq_true.1 (List.all_eq_true.1 ibit_all s (List.mem_range.2 hs)) e (List.mem_range.2 he))
end Go.Proofs.Ytjlpjkiadohkiaa
namespace Go.Proofs.Ytjlpjkiadohkiaa
open Go Go.Ab
attribute [local irreducible] aol


def elL (s k : Nat) : List Int := ((List.range k).filter fun e => Nat.testBit s e).map fun (e : Nat) => (e : Int)
theorem elL_yes {s k : Nat} (h : Nat.testBit s k = true) : elL s (k + 1) = elL s k ++ [(k : Int)] := by
  unfold elL; rw [List.range_succ, List.filter_append, List.map_append]; simp [h]
theorem elL_no {s k : Nat} (h : Nat.testBit s k = false) : elL s (k + 1) = elL s k := by
  unfold elL; rw [List.range_succ, List.filter_append, List.map_append]; simp [h]
theorem elL_len (s k : Nat) : (elL s k).length ≤ k := by
  unfold elL; rw [List.length_map]; exact Nat.le_trans (List.length_filter_le ..) (by simp)
def tElem : Tab
  | [.i s] => some (0 ≤ s ∧ s < 64, .own 0, [.row .i64 3 (elL s.toNat 6)])
  | _ => none
end Go.Proofs.Ytjlpjkiadohkiaa
