import Derived.Test.YthoionlldmfpiaaDoorHs
import Derived.Test.YthoionlldmfpiaaDoorT4
set_option linter.unusedSimpArgs false
set_option linter.unusedVariables false
set_option maxHeartbeats 2000000
namespace Go.Proofs.YthoionlldmfpiaaDoor
open Go Go.Ab
attribute [local irreducible] aol
theorem iand_1 {x : Nat} (h : x < 4611686018427387904) : iand (x : Int) 1 = ((x % 2 : Nat) : Int) := by
  have := iand_nat (a := x) (b := 1) (by omega) (by omega)
  rw [Nat.and_one_is_mod] at this
  exact this
theorem ishr_1 (x : Nat) : ishr (x : Int) 1 = ((x / 2 : Nat) : Int) := by
  show (x : Int).fdiv (2 ^ 1) = _
  rw [Int.fdiv_eq_ediv_of_nonneg _ (by decide)]; omega
end Go.Proofs.YthoionlldmfpiaaDoor
