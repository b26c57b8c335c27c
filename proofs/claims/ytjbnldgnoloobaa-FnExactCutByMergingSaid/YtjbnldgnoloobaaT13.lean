import Derived.Test.YtjbnldgnoloobaaT12
set_option linter.unusedSimpArgs false
set_option linter.unusedVariables false
set_option maxHeartbeats 2000000
namespace Go.Proofs.Ytjbnldgnoloobaa
open Go Go.Ab
attribute [local irreducible] aol


def popF : Nat → Nat → Nat
  | 0, _ => 0
  | f + 1, x => x % 2 + popF f (x / 2)
def popN (x : Nat) : Nat := popF 62 x
theorem iand_1 {x : Nat} (h : x < 4611686018427387904) : iand (x : Int) 1 = ((x % 2 : Nat) : Int) := by
  have := iand_nat (a := x) (b := 1) (by omega) (by omega)
  rw [Nat.and_one_is_mod] at this
  exact this
theorem ishr_1 (x : Nat) : ishr (x : Int) 1 = ((x / 2 : Nat) : Int) := by
  show (x : Int).fdiv (2 ^ 1) = _
  rw [Int.fdiv_eq_ediv_of_nonneg _ (by decide)]; omega
def m1 : Int := 6148914691236517205
def m2 : Int := 3689348814741910323
def m4 : Int := 1085102592571150095
end Go.Proofs.Ytjbnldgnoloobaa
