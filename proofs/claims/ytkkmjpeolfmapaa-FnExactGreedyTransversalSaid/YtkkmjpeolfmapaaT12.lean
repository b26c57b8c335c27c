import Derived.Test.YtkkmjpeolfmapaaT11
set_option linter.unusedSimpArgs false
set_option linter.unusedVariables false
set_option maxHeartbeats 2000000
namespace Go.Proofs.Ytkkmjpeolfmapaa
open Go Go.Ab
attribute [local irreducible] aol


theorem pow_nat (n : Nat) : (2 : Int) ^ n = ((2 ^ n : Nat) : Int) := by simp
theorem or_lt {s i m : Nat} (hs : s < 2 ^ m) (hi : i < m) : s ||| 2 ^ i < 2 ^ m := Nat.or_lt_two_pow hs (Nat.pow_lt_pow_right (by omega) hi)
theorem pow5 {m : Nat} (h : m ≤ 62) : 2 ^ m ≤ 4611686018427387904 := Nat.le_trans (Nat.pow_le_pow_right (by omega) h) (by decide)
theorem ior_bit {s i m : Nat} (hs : s < 2 ^ m) (hi : i < m) (hm : m ≤ 62) : ior (s : Int) (2 ^ i) = ((s ||| 2 ^ i : Nat) : Int) := by
  have h1 := pow5 hm
  have h2 : 2 ^ i < 2 ^ m := Nat.pow_lt_pow_right (by omega) hi
  rw [pow_nat, ior_nat (by omega) (by omega)]

end Go.Proofs.Ytkkmjpeolfmapaa
