import Derived.Test.YtjlpjkiadohkiaaT21
import Derived.Test.YtjlpjkiadohkiaaHs
import Derived.Test.YtjlpjkiadohkiaaT17
set_option linter.unusedSimpArgs false
set_option linter.unusedVariables false
set_option maxHeartbeats 2000000
namespace Go.Proofs.Ytjlpjkiadohkiaa
open Go Go.Ab
attribute [local irreducible] aol
attribute [local irreducible] popN


theorem topBit_all : ((List.range 64).all fun s => decide (s = 0) || (decide (s - 2 ^ s.log2 < s) && (decide ((s - 2 ^ s.log2) ||| 2 ^ s.log2 = s) && decide (2 ^ s.log2 ≤ s)))) = true := by kernel_rfl
theorem topBit {s : Nat} (hs : s < 64) (h0 : s ≠ 0) : s - 2 ^ s.log2 < s ∧ (s - 2 ^ s.log2) ||| 2 ^ s.log2 = s ∧ 2 ^ s.log2 ≤ s := by
  have := List.all_eq_true.1 topBit_all s (List.mem_range.2 hs)
  rw [decide_eq_false h0, Bool.false_or, Bool.and_eq_true, Bool.and_eq_true, decide_eq_true_eq, decide_eq_true_eq, decide_eq_true_eq] at this
  exact this
theorem pol_iff {n : Int} {l : List Int} : polV n l = true ↔ fnV n l = true ∧ l.getD 0 0 = 0 ∧ incrV n l = true ∧ subV n l = true := by
  unfold polV grV; simp only [Bool.and_eq_true, decide_eq_true_eq]
  constructor
  · rintro ⟨⟨h1, h2⟩, ⟨h3, h4⟩, h5⟩; exact ⟨h1, h2, h4, h5⟩
  · rintro ⟨h1, h2, h3, h4⟩; exact ⟨⟨h1, h2⟩, ⟨h1, h3⟩, h4⟩
theorem incr_at {n : Int} {l : List Int} (h : incrV n l = true) {s i : Nat} (hs : s < l.length) (hi : i < n.toNat) : l.getD s 0 ≤ l.getD (s ||| 2 ^ i) 0 := by
  unfold incrV at h
  have := List.all_eq_true.1 (List.all_eq_true.1 h s (List.mem_range.2 hs)) i (List.mem_range.2 hi)
  unfold gtP at this
  rw [Bool.not_eq_true', decide_eq_false_iff_not] at this
  omega
theorem pol_nn {n : Int} {l : List Int} (h : polV n l = true) : ∀ s, s < l.length → 0 ≤ l.getD s 0 := by
  have hp := pol_iff.1 h
  have hlen := fnV_len hp.1
  have hf := (fnV_iff.1 hp.1).1
  have hp6 : 2 ^ n.toNat ≤ 32 := Nat.le_trans (Nat.pow_le_pow_right (by omega) (show n.toNat ≤ 5 by omega)) (by decide)
  intro s
  induction s using Nat.strongRecOn with
  | ind s ih =>
    intro hs
    by_cases h0 : s = 0
    · subst h0; omega
    · obtain ⟨h1, h2, h3⟩ := topBit (s := s) (by omega) h0
      have hi : s.log2 < n.toNat := Nat.lt_of_not_le fun hle => by
        have := Nat.pow_le_pow_right (n := 2) (by omega) hle; omega
      have h4 := ih _ h1 (by omega)
      have h5 := incr_at hp.2.2.1 (s := s - 2 ^ s.log2) (by omega) hi
      rw [h2] at h5
      omega
theorem mat_pol {n : Int} {l : List Int} (h : matV n l = true) : polV n l = true := by unfold matV at h; rw [Bool.and_eq_true] at h; exact h.1
theorem cbF_lt (n : Int) : cbF n + 1 = 2 ^ n.toNat := by have := Nat.two_pow_pos n.toNat; unfold cbF; omega
end Go.Proofs.Ytjlpjkiadohkiaa
namespace Go.Proofs.Ytjlpjkiadohkiaa
open Go Go.Ab
attribute [local irreducible] aol
attribute [local irreducible] popN


theorem spl_pre {n n' : Int} {l l' : List Int} {s : Int} (h : areV n l n' l' = true) (hs : 0 ≤ s ∧ s < 2 ^ n.toNat) : splPre n l n' l' s = True := by
  obtain ⟨h1, h2, rfl⟩ := are_iff.1 h
  exact eq_true ⟨mat_fn h1, mat_fn h2, rfl, hs⟩
end Go.Proofs.Ytjlpjkiadohkiaa
namespace Go.Proofs.Ytjlpjkiadohkiaa
open Go Go.Ab
attribute [local irreducible] aol
attribute [local irreducible] popN


def mkL (f : Int → Int) (m : Nat) : List Int := (List.range m).map fun (i : Nat) => f (i : Int)
theorem mkL_succ {f : Int → Int} {m : Nat} : mkL f (m + 1) = mkL f m ++ [f (m : Int)] := by unfold mkL; rw [List.range_succ, List.map_append]; rfl
theorem mkL_len (f : Int → Int) (m : Nat) : (mkL f m).length = m := by simp [mkL]
theorem mk_fn {n : Int} {f : Int → Int} (hn : 0 ≤ n ∧ n ≤ 5) (h : ∀ k : Nat, k < 2 ^ n.toNat → -1000 ≤ f (k : Int) ∧ f (k : Int) ≤ 1000) : fnV n (mkL f (2 ^ n.toNat)) = true := by
  rw [fnV_iff]
  refine ⟨hn, by rw [mkL_len]; simp, ?_⟩
  rw [List.all_eq_true]
  intro x hx
  unfold mkL at hx
  simp only [List.mem_map, List.mem_range] at hx
  obtain ⟨k, hk, rfl⟩ := hx
  rw [inR_iff]; exact h k hk
theorem or0_t (g : Int) : or0 true g = g := rfl
theorem orE_t (l : List Int) : orE true l = l := rfl
end Go.Proofs.Ytjlpjkiadohkiaa
