import Derived.Test.YtjlpjkiadohkiaaT23
import Derived.Test.YtjlpjkiadohkiaaHs
import Derived.Test.YtjlpjkiadohkiaaT28
set_option linter.unusedSimpArgs false
set_option linter.unusedVariables false
set_option maxHeartbeats 2000000
namespace Go.Proofs.Ytjlpjkiadohkiaa
open Go Go.Ab
attribute [local irreducible] aol
attribute [local irreducible] popN


theorem topBit2_all : ((List.range 64).all fun s => decide (s = 0) || (decide (popN s = popN (s - 2 ^ s.log2) + 1) && !Nat.testBit (s - 2 ^ s.log2) s.log2)) = true := by kernel_rfl
theorem topBit2 {s : Nat} (hs : s < 64) (h0 : s ≠ 0) : popN s = popN (s - 2 ^ s.log2) + 1 ∧ Nat.testBit (s - 2 ^ s.log2) s.log2 = false := by
  have := List.all_eq_true.1 topBit2_all s (List.mem_range.2 hs)
  rw [decide_eq_false h0, Bool.false_or, Bool.and_eq_true, decide_eq_true_eq, Bool.not_eq_true'] at this
  exact this
theorem excV_comm (l : List Int) (s i k : Nat) : excV l s i k = excV l s k i := by
  unfold excV
  rw [Nat.or_assoc s (2 ^ i) (2 ^ k), Nat.or_comm (2 ^ i) (2 ^ k), ← Nat.or_assoc]; omega
theorem sub_lt_at {n : Int} {l : List Int} (h : subV n l = true) {s i k : Nat} (hs : s < l.length) (hik : i < k) (hk : k < n.toNat) (h1 : Nat.testBit s i = false) (h2 : Nat.testBit s k = false) : excV l s i k ≤ 0 := by
  unfold subV at h
  rw [Bool.and_eq_true, Bool.not_eq_true'] at h
  have hn := (fnV_iff.1 h.1).1
  have hlen := fnV_len h.1
  have hp6 : 2 ^ n.toNat ≤ 32 := Nat.le_trans (Nat.pow_le_pow_right (by omega) (show n.toNat ≤ 5 by omega)) (by decide)
  have hv : vioV n l = none := by
    have := h.2
    unfold vioB at this
    rw [h.1, Bool.true_and] at this
    cases hv : vioV n l with
    | none => rfl
    | some x => rw [hv] at this; cases this
  have a1 := seek2_none.1 hv s (Nat.zero_le _) (by omega)
  unfold vioS at a1
  rw [Option.map_eq_none_iff] at a1
  have a2 := seek2_none.1 a1 i (Nat.zero_le _) (by omega)
  unfold vioI at a2
  rw [Option.map_eq_none_iff] at a2
  have a3 := seek_none.1 a2 k (by omega) (by omega)
  unfold vioP at a3
  have b1 := ibit (s := s) (e := i) (by omega) (by omega)
  have b2 := ibit (s := s) (e := k) (by omega) (by omega)
  rw [h1, if_neg (by decide)] at b1
  rw [h2, if_neg (by decide)] at b2
  rw [decide_eq_true b1, decide_eq_true b2, Bool.true_and, Bool.true_and, decide_eq_false_iff_not] at a3
  omega
theorem sub_at {n : Int} {l : List Int} (h : subV n l = true) {s i k : Nat} (hs : s < l.length) (hne : i ≠ k) (hi : i < n.toNat) (hk : k < n.toNat) (h1 : Nat.testBit s i = false) (h2 : Nat.testBit s k = false) : excV l s i k ≤ 0 := by
  rcases Nat.lt_or_gt_of_ne hne with h' | h'
  · exact sub_lt_at h hs h' hk h1 h2
  · rw [excV_comm]; exact sub_lt_at h hs h' hi h2 h1
theorem gain_le {n : Int} {l : List Int} (h : polV n l = true) {i : Nat} (hi : i < n.toNat) : ∀ s, s < l.length → Nat.testBit s i = false → l.getD (s ||| 2 ^ i) 0 - l.getD s 0 ≤ l.getD (2 ^ i) 0 := by
  have hp := pol_iff.1 h
  have hlen := fnV_len hp.1
  have hf := (fnV_iff.1 hp.1).1
  have hp6 : 2 ^ n.toNat ≤ 32 := Nat.le_trans (Nat.pow_le_pow_right (by omega) (show n.toNat ≤ 5 by omega)) (by decide)
  intro s
  induction s using Nat.strongRecOn with
  | ind s ih =>
    intro hs hb
    by_cases h0 : s = 0
    · subst h0; rw [Nat.zero_or]; omega
    · obtain ⟨h1, h2, h3⟩ := topBit (s := s) (by omega) h0
      obtain ⟨h4, h5⟩ := topBit2 (s := s) (by omega) h0
      have hj : s.log2 < n.toNat := Nat.lt_of_not_le fun hle => by
        have := Nat.pow_le_pow_right (n := 2) (by omega) hle; omega
      have hbit : Nat.testBit (s - 2 ^ s.log2) i = false := by
        have : Nat.testBit ((s - 2 ^ s.log2) ||| 2 ^ s.log2) i = false := by rw [h2]; exact hb
        rw [Nat.testBit_or, Bool.or_eq_false_iff] at this
        exact this.1
      have hne : i ≠ s.log2 := fun e => by
        subst e
        have : Nat.testBit ((s - 2 ^ s.log2) ||| 2 ^ s.log2) s.log2 = true := by simp
        rw [h2, hb] at this; cases this
      have h6 := sub_at hp.2.2.2 (s := s - 2 ^ s.log2) (by omega) hne hi hj hbit h5
      have h7 := ih _ h1 (by omega) hbit
      unfold excV at h6
      rw [h2, Nat.or_assoc, Nat.or_comm (2 ^ i) (2 ^ s.log2), ← Nat.or_assoc, h2] at h6
      omega
theorem one_at {n : Int} {l : List Int} (h : matV n l = true) {e : Nat} (he : e < n.toNat) : l.getD (2 ^ e) 0 ≤ 1 := by
  unfold matV oneV at h
  rw [Bool.and_eq_true] at h
  have := List.all_eq_true.1 h.2 e (List.mem_range.2 he)
  rw [Bool.not_eq_true', decide_eq_false_iff_not] at this
  omega
theorem mat_le {n : Int} {l : List Int} (h : matV n l = true) : ∀ s, s < l.length → l.getD s 0 ≤ (popN s : Int) := by
  have hp := pol_iff.1 (mat_pol h)
  have hlen := fnV_len hp.1
  have hf := (fnV_iff.1 hp.1).1
  have hp6 : 2 ^ n.toNat ≤ 32 := Nat.le_trans (Nat.pow_le_pow_right (by omega) (show n.toNat ≤ 5 by omega)) (by decide)
  intro s
  induction s using Nat.strongRecOn with
  | ind s ih =>
    intro hs
    by_cases h0 : s = 0
    · subst h0; omega
    · obtain ⟨h1, h2, h3⟩ := topBit (s := s) (by omega) h0
      obtain ⟨h4, h5⟩ := topBit2 (s := s) (by omega) h0
      have hj : s.log2 < n.toNat := Nat.lt_of_not_le fun hle => by
        have := Nat.pow_le_pow_right (n := 2) (by omega) hle; omega
      have h6 := gain_le (mat_pol h) hj (s - 2 ^ s.log2) (by omega) h5
      have h7 := ih _ h1 (by omega)
      have h8 := one_at h hj
      rw [h2] at h6
      omega

end Go.Proofs.Ytjlpjkiadohkiaa
