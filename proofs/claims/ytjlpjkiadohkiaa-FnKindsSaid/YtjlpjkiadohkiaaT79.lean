import Derived.Test.YtjlpjkiadohkiaaT34
import Derived.Test.YtjlpjkiadohkiaaHs
import Derived.Test.YtjlpjkiadohkiaaT29
set_option linter.unusedSimpArgs false
set_option linter.unusedVariables false
set_option maxHeartbeats 2000000
namespace Go.Proofs.Ytjlpjkiadohkiaa
open Go Go.Ab
attribute [local irreducible] aol
attribute [local irreducible] popN


theorem bit_or (s i a : Nat) : Nat.testBit (s ||| 2 ^ i) a = (Nat.testBit s a || decide (i = a)) := by rw [Nat.testBit_or, Nat.testBit_two_pow]
theorem popAdd2_all : ((List.range 64).all fun s => (List.range 6).all fun b => Nat.testBit s b || decide (popN (s ||| 2 ^ b) = popN s + 1)) = true := by kernel_rfl
theorem popAdd2 {s b : Nat} (hs : s < 64) (hb : b < 6) (h : Nat.testBit s b = false) : popN (s ||| 2 ^ b) = popN s + 1 := by
  have := List.all_eq_true.1 (List.all_eq_true.1 popAdd2_all s (List.mem_range.2 hs)) b (List.mem_range.2 hb)
  rw [h, Bool.false_or, decide_eq_true_eq] at this; exact this
theorem bit_ne {s i k : Nat} (h : i ≠ k) (h2 : Nat.testBit s k = false) : Nat.testBit (s ||| 2 ^ i) k = false := by
  rw [bit_or, h2, decide_eq_false h]; rfl
theorem or_bit_same {s i : Nat} (h : Nat.testBit s i = true) : s ||| 2 ^ i = s := by
  apply Nat.eq_of_testBit_eq; intro j
  rw [bit_or]
  by_cases e : i = j
  · subst e; rw [h]; rfl
  · rw [decide_eq_false e, Bool.or_false]
theorem sub_mk {n : Int} {f : Int → Int} (hf : fnV n (mkL f (2 ^ n.toNat)) = true) (h : ∀ s i k : Nat, s < 2 ^ n.toNat → i < k → k < n.toNat → Nat.testBit s i = false → Nat.testBit s k = false → f ((s ||| 2 ^ i ||| 2 ^ k : Nat) : Int) + f (s : Int) ≤ f ((s ||| 2 ^ i : Nat) : Int) + f ((s ||| 2 ^ k : Nat) : Int)) : subV n (mkL f (2 ^ n.toNat)) = true := by
  refine sub_of hf fun s i k hs hik hk h1 h2 => ?_
  rw [mkL_len] at hs
  have hi : i < n.toNat := by omega
  unfold excV
  rw [mkL_get (or_lt (or_lt hs hi) hk), mkL_get hs, mkL_get (or_lt hs hi), mkL_get (or_lt hs hk)]
  have := h s i k hs hik hk h1 h2
  omega
theorem pol_mk {n : Int} {f : Int → Int} (hf : fnV n (mkL f (2 ^ n.toNat)) = true) (h0 : f 0 = 0) (hi : ∀ s i : Nat, s < 2 ^ n.toNat → i < n.toNat → f (s : Int) ≤ f ((s ||| 2 ^ i : Nat) : Int)) (hs : subV n (mkL f (2 ^ n.toNat)) = true) : polV n (mkL f (2 ^ n.toNat)) = true := by
  refine pol_iff.2 ⟨hf, ?_, ?_, hs⟩
  · rw [mkL_get (Nat.two_pow_pos _)]; exact h0
  · unfold incrV
    rw [mkL_len, List.all_eq_true]
    intro s hs'
    rw [List.mem_range] at hs'
    rw [List.all_eq_true]
    intro i hi'
    rw [List.mem_range] at hi'
    unfold gtP
    rw [mkL_get hs', mkL_get (or_lt hs' hi'), Bool.not_eq_true', decide_eq_false_iff_not]
    have := hi s i hs' hi'
    omega
end Go.Proofs.Ytjlpjkiadohkiaa
