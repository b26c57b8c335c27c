import Derived.Test.YthoionlldmfpiaaDoorHs
import Derived.Test.YthoionlldmfpiaaDoorT10
set_option linter.unusedSimpArgs false
set_option linter.unusedVariables false
set_option maxHeartbeats 2000000
namespace Go.Proofs.YthoionlldmfpiaaDoor
open Go Go.Ab
attribute [local irreducible] aol
def rangeL (p : Int → Bool) (n : Nat) : List Int := ((List.range n).filter fun (i : Nat) => p (i : Int)).map fun (i : Nat) => (i : Int)
theorem rangeL_len (p : Int → Bool) (n : Nat) : (rangeL p n).length ≤ n := by
  unfold rangeL; rw [List.length_map]; exact Nat.le_trans (List.length_filter_le ..) (by simp)
theorem mem_rangeL {p : Int → Bool} {n : Nat} {x : Int} : x ∈ rangeL p n ↔ (0 ≤ x ∧ x < n) ∧ p x = true := by
  unfold rangeL
  simp only [List.mem_map, List.mem_filter, List.mem_range]
  constructor
  · rintro ⟨i, ⟨h1, h2⟩, rfl⟩; exact ⟨by omega, h2⟩
  · rintro ⟨h1, h2⟩
    obtain ⟨i, rfl⟩ := Int.eq_ofNat_of_zero_le h1.1
    exact ⟨i, ⟨by omega, h2⟩, rfl⟩
theorem rangeL_asc (p : Int → Bool) (n : Nat) : (rangeL p n).Pairwise (· < ·) := by
  unfold rangeL
  rw [List.pairwise_map]
  exact (List.Pairwise.filter _ List.pairwise_lt_range).imp (fun h => by omega)
theorem asc_of_inc {l : List Int} (h : incB l = true) : l.Pairwise (· < ·) := by
  rw [List.pairwise_iff_getElem]
  intro i j hi hj hij
  have := inc_lt h hij hj
  rw [List.getD_eq_getElem?_getD, List.getD_eq_getElem?_getD, List.getElem?_eq_getElem hi, List.getElem?_eq_getElem hj] at this
  exact this
theorem asc_ext : ∀ {l m : List Int}, l.Pairwise (· < ·) → m.Pairwise (· < ·) → (∀ x, x ∈ l ↔ x ∈ m) → l = m
  | [], [], _, _, _ => rfl
  | [], y :: m, _, _, h => absurd ((h y).2 (by simp)) (by simp)
  | x :: l, [], _, _, h => absurd ((h x).1 (by simp)) (by simp)
  | x :: l, y :: m, h1, h2, h => by
    rw [List.pairwise_cons] at h1 h2
    have hxy : x = y := by
      have a := (h x).1 (by simp)
      have b := (h y).2 (by simp)
      rw [List.mem_cons] at a b
      rcases a with a | a
      · exact a
      · rcases b with b | b
        · exact b.symm
        · have := h1.1 y b; have := h2.1 x a; omega
    subst hxy
    rw [asc_ext h1.2 h2.2 fun z => ?_]
    have hz := h z
    rw [List.mem_cons, List.mem_cons] at hz
    constructor
    · intro hm
      rcases hz.1 (.inr hm) with e | e
      · have := h1.1 z hm; omega
      · exact e
    · intro hm
      rcases hz.2 (.inr hm) with e | e
      · have := h2.1 z hm; omega
      · exact e
theorem isSet_range {g : Int} (h0 : 0 ≤ g) {x : Int} : isSet g x = true ↔ 0 ≤ x ∧ x < ((2 ^ g.toNat : Nat) : Int) := by
  rw [isSet_iff]; simp
end Go.Proofs.YthoionlldmfpiaaDoor
