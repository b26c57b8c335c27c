import Derived.Test.YthoionlldmfpiaaGreatT36
import Derived.Test.YthoionlldmfpiaaGreatHs
import Derived.Test.YthoionlldmfpiaaGreatT30
set_option linter.unusedSimpArgs false
set_option linter.unusedVariables false
set_option maxHeartbeats 2000000
namespace Go.Proofs.YthoionlldmfpiaaGreat
open Go Go.Ab
attribute [local irreducible] aol
attribute [local irreducible] popN
theorem orT {n s : Nat} (h : s < 2 ^ n) : s + 2 ^ n = s ||| 2 ^ n := by
  have := Nat.two_pow_add_eq_or_of_lt h 1
  rw [Nat.mul_one] at this
  rw [Nat.add_comm, this, Nat.or_comm]
theorem bitT {n s : Nat} (h : s < 2 ^ n) (j : Nat) : Nat.testBit (s + 2 ^ n) j = (Nat.testBit s j || decide (n = j)) := by
  rw [orT h, Nat.testBit_or, Nat.testBit_two_pow]
theorem bit_hi {n s j : Nat} (h : s < 2 ^ n) (hj : n ≤ j) : Nat.testBit s j = false :=
  Nat.testBit_lt_two_pow (Nat.lt_of_lt_of_le h (Nat.pow_le_pow_right (by omega) hj))
theorem andL_lt {n s t : Nat} (hs : s < 2 ^ n) : s &&& t < 2 ^ n := Nat.lt_of_le_of_lt Nat.and_le_left hs
theorem cplN {n : Nat} {s : Nat} (hs : s < 2 ^ n) (j : Nat) : Nat.testBit (2 ^ n - 1 - s) j = (decide (j < n) && !Nat.testBit s j) := by
  have := Nat.testBit_two_pow_sub_succ hs j
  rw [Nat.add_comm, ← Nat.sub_sub] at this; exact this
theorem cpl_lt {n s : Nat} : 2 ^ n - 1 - s < 2 ^ n := by have := Nat.two_pow_pos n; omega
theorem cpl_or {n s t : Nat} (hs : s < 2 ^ n) (ht : t < 2 ^ n) : (2 ^ n - 1 - s) &&& (2 ^ n - 1 - t) = 2 ^ n - 1 - (s ||| t) := by
  apply Nat.eq_of_testBit_eq; intro j
  rw [Nat.testBit_and, cplN hs, cplN ht, cplN (Nat.or_lt_two_pow hs ht), Nat.testBit_or]
  cases Nat.testBit s j <;> cases Nat.testBit t j <;> cases decide (j < n) <;> rfl
theorem cpl_and {n s t : Nat} (hs : s < 2 ^ n) (ht : t < 2 ^ n) : (2 ^ n - 1 - s) ||| (2 ^ n - 1 - t) = 2 ^ n - 1 - (s &&& t) := by
  apply Nat.eq_of_testBit_eq; intro j
  rw [Nat.testBit_or, cplN hs, cplN ht, cplN (andL_lt hs), Nat.testBit_and]
  cases Nat.testBit s j <;> cases Nat.testBit t j <;> cases decide (j < n) <;> rfl
theorem lt_succ {n s : Nat} (h : s < 2 ^ n) : s < 2 ^ (n + 1) ∧ s + 2 ^ n < 2 ^ (n + 1) := by rw [Nat.pow_succ]; omega
end Go.Proofs.YthoionlldmfpiaaGreat
