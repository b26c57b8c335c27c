import Derived.Test.YtjbnldgnoloobaaT21
set_option linter.unusedSimpArgs false
set_option linter.unusedVariables false
set_option maxHeartbeats 2000000
namespace Go.Proofs.Ytjbnldgnoloobaa
open Go Go.Ab
attribute [local irreducible] aol
attribute [local irreducible] popN


theorem popN_le (x : Nat) : popN x ≤ 62 := by unfold popN; exact popF_le 62 x
theorem topBit_all : ((List.range 64).all fun s => decide (s = 0) || (decide (s - 2 ^ s.log2 < s) && (decide ((s - 2 ^ s.log2) ||| 2 ^ s.log2 = s) && decide (2 ^ s.log2 ≤ s)))) = true := by kernel_rfl
theorem topBit {s : Nat} (hs : s < 64) (h0 : s ≠ 0) : s - 2 ^ s.log2 < s ∧ (s - 2 ^ s.log2) ||| 2 ^ s.log2 = s ∧ 2 ^ s.log2 ≤ s := by
  have := List.all_eq_true.1 topBit_all s (List.mem_range.2 hs)
  rw [decide_eq_false h0, Bool.false_or, Bool.and_eq_true, Bool.and_eq_true, decide_eq_true_eq, decide_eq_true_eq, decide_eq_true_eq] at this
  exact this
theorem pol_iff {n : Int} {l : List Int} : polV n l = true ↔ fnV n l = true ∧ l.getD 0 0 = 0 ∧ incrV n l = true ∧ subV n l = true := by
  unfold polV grV; simp only [Bool.and_eq_true, decide_eq_true_eq]
  constructor
  · rintro ⟨⟨h1, h2⟩, ⟨h3, h4⟩, h5⟩; exact ⟨h1, h2, h4, h5⟩
  · rintro ⟨h1, h2, h3, h4⟩; exact ⟨⟨h1, h2⟩, ⟨h1, h3⟩, h4⟩
theorem mat_pol {n : Int} {l : List Int} (h : matV n l = true) : polV n l = true := by unfold matV at h; rw [Bool.and_eq_true] at h; exact h.1
end Go.Proofs.Ytjbnldgnoloobaa
