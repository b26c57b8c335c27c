import Derived.Test.YtjbnldgnoloobaaT21
set_option linter.unusedSimpArgs false
set_option linter.unusedVariables false
set_option maxHeartbeats 2000000
namespace Go.Proofs.Ytjbnldgnoloobaa
open Go Go.Ab
attribute [local irreducible] aol
attribute [local irreducible] popN


theorem popN_le (x : Nat) : popN x ≤ 62 := by unfold popN; exact popF_le 62 x
theorem topBit_all : ((List.range 64).all fun s => decide (s = 0) || (decide (s - 2 ^ s.log2 < s) && (decide ((s - 2 ^ s.log2) ||| 2 ^ s.log2 = s) && decide (2 ^ s.log2 ≤ s)))) = true := by kernel_rfl
theorem topBit {s : Nat} (hs : s < 64) (h0 : s ≠ 0) : s - 2 ^ s.log2 < s ∧ (s - 2 ^ s.log2) ||| 2 ^ s.log2 = s ∧ 2 ^ s.log2 ≤ s := by
  have := List.all_eq_true.1 topBit_all s (List.mem_range.2 hs)
  rw [decide_eq_false h0, Bool.false_or, Bool.and_eq_true, Bool.and_eq_true, decide_eq_true_eq, decide_eq_true_eq, decide_eq_true_eq] at this
  exact this
theorem pol_iff {n : Int} {l : List Int} : polV n l = true ↔ fnV n l = true ∧ l.getD 0 0 = 0 ∧ incrV n l = true ∧ subV n l = true := by
  unfold polV grV; simp only [Bool.and_eq_true, decide_eq_true_eq]
  constructor
  · rintro ⟨⟨h1, h2⟩, ⟨h3, h4⟩, h5⟩; exact ⟨h1, h2, h4, h5⟩
  · rintro ⟨h1, h2, h3, h4⟩; exact ⟨⟨h1, h2⟩, ⟨h1, h3⟩, h4⟩
theorem incr_at {n : Int} {l : List Int} (h : incrV n l = true) {s i : Nat} (hs : s < l.length) (hi : i < n.toNat) : l.getD s 0 ≤ l.getD (s ||| 2 ^ i) 0 := by
  unfold incrV at h
  have := List.all_eq_true.1 (List.all_eq_true.1 h s (List.mem_range.2 hs)) i (List.mem_range.2 hi)
  unfold gtP at this
  rw [Bool.not_eq_true', decide_eq_false_iff_not] at this
  omega
theorem pol_nn {n : Int} {l : List Int} (h : polV n l = true) : ∀ s, s < l.length → 0 ≤ l.getD s 0 := by
  have hp := pol_iff.1 h
  have hlen := fnV_len hp.1
  have hf := (fnV_iff.1 hp.1).1
  have hp6 : 2 ^ n.toNat ≤ 32 := Nat.le_trans (Nat.pow_le_pow_right (by omega) (show n.toNat ≤ 5 by omega)) (by decide)
  intro s
  induction s using Nat.strongRecOn with
  | ind s ih =>
    intro hs
    by_cases h0 : s = 0
    · subst h0; omega
    · obtain ⟨h1, h2, h3⟩ := topBit (s := s) (by omega) h0
      have hi : s.log2 < n.toNat := Nat.lt_of_not_le fun hle => by
        have := Nat.pow_le_pow_right (n := 2) (by omega) hle; omega
      have h4 := ih _ h1 (by omega)
      have h5 := incr_at hp.2.2.1 (s := s - 2 ^ s.log2) (by omega) hi
      rw [h2] at h5
      omega
theorem mat_pol {n : Int} {l : List Int} (h : matV n l = true) : polV n l = true := by unfold matV at h; rw [Bool.and_eq_true] at h; exact h.1
end Go.Proofs.Ytjbnldgnoloobaa
