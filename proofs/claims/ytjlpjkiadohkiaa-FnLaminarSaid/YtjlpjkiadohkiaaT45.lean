import Derived.Test.YtjlpjkiadohkiaaT42
set_option linter.unusedSimpArgs false
set_option linter.unusedVariables false
set_option maxHeartbeats 2000000
namespace Go.Proofs.Ytjlpjkiadohkiaa
open Go Go.Ab
attribute [local irreducible] aol
attribute [local irreducible] popN


/-- The first j numbers without those at i and k. -/
def othV (l : List Int) (i k : Nat) : Nat → List Int
  | 0 => []
  | j + 1 => if j = i ∨ j = k then othV l i k j else othV l i k j ++ [l.getD j 0]
def othP (l : List Int) (i k : Nat) : Nat → List Int
  | 0 => []
  | j + 1 => if j = i ∨ j = k then othP l i k j else putV (othP l i k j) (l.getD j 0)
theorem othP_asc (l : List Int) (i k : Nat) : ∀ j, (othP l i k j).Pairwise (· < ·)
  | 0 => List.Pairwise.nil
  | j + 1 => by
    unfold othP; split
    · exact othP_asc l i k j
    · exact putV_asc (othP_asc l i k j)
theorem othP_mem {l : List Int} {i k : Nat} {x : Int} : ∀ {j : Nat}, x ∈ othP l i k j ↔ x ∈ othV l i k j
  | 0 => by simp [othP, othV]
  | j + 1 => by
    unfold othP othV; split
    · exact othP_mem (j := j)
    · rw [putV_mem, othP_mem (j := j), List.mem_append, List.mem_singleton]; exact Or.comm
theorem othV_len {l : List Int} {i k : Nat} (h : i < k) : ∀ j, (othV l i k j).length + (if i < j then 1 else 0) + (if k < j then 1 else 0) = j
  | 0 => by simp [othV]
  | j + 1 => by
    have := othV_len (l := l) h j
    unfold othV
    split
    · rename_i e
      rcases e with e | e <;> (subst e; simp only [Nat.lt_irrefl, if_false, Nat.lt_succ_self, if_true] at this ⊢; repeat' split at this) <;> (repeat' split) <;> omega
    · rw [List.length_append, List.length_singleton]
      repeat' split at this
      all_goals (repeat' split)
      all_goals omega
def joinAt (l : List Int) (i k : Nat) : List Int := gatV (othV l i k l.length ++ [ior (l.getD i 0) (l.getD k 0)])
theorem joinAt_put (l : List Int) (i k : Nat) : putV (othP l i k l.length) (ior (l.getD i 0) (l.getD k 0)) = joinAt l i k :=
  asc_ext (putV_asc (othP_asc ..)) (gatV_asc _) fun x => by
    rw [putV_mem, joinAt, gatV_mem, othP_mem, List.mem_append, List.mem_singleton]; exact Or.comm
theorem joinAt_len {l : List Int} {i k : Nat} (h : i < k) (hk : k < l.length) : (joinAt l i k).length < l.length := by
  have h1 := othV_len (l := l) h l.length
  rw [if_pos (by omega), if_pos hk] at h1
  have h2 := gatV_len (othV l i k l.length ++ [ior (l.getD i 0) (l.getD k 0)])
  rw [List.length_append, List.length_singleton] at h2
  show (gatV _).length < _
  omega
theorem seek_some {p : Nat → Bool} {k : Nat} : ∀ {n j : Nat}, seek p n j = some k → j ≤ k ∧ k < j + n ∧ p k = true
  | 0, j, h => by cases h
  | n + 1, j, h => by
    unfold seek at h
    split at h
    · cases h; exact ⟨Nat.le_refl _, by omega, by assumption⟩
    · obtain ⟨h1, h2, h3⟩ := seek_some (n := n) h
      exact ⟨by omega, by omega, h3⟩
theorem seek2_some {β : Type} {q : Nat → Option β} {x : β} : ∀ {n j : Nat}, seek2 q n j = some x → ∃ i, j ≤ i ∧ i < j + n ∧ q i = some x
  | 0, j, h => by cases h
  | n + 1, j, h => by
    unfold seek2 at h
    split at h
    · cases h; exact ⟨j, Nat.le_refl _, by omega, by assumption⟩
    · obtain ⟨i, h1, h2, h3⟩ := seek2_some (n := n) h
      exact ⟨i, by omega, by omega, h3⟩
theorem firstV_some {l : List Int} {i k : Nat} (h : firstV l = some (i, k)) : i < k ∧ k < l.length := by
  obtain ⟨i', h1, h2, h3⟩ := seek2_some h
  rw [Option.map_eq_some_iff] at h3
  obtain ⟨k', h4, h5⟩ := h3
  cases h5
  obtain ⟨h6, h7, _⟩ := seek_some h4
  omega
def joinV (l : List Int) : List Int := match firstV l with | none => l | some p => joinAt l p.1 p.2
theorem joinV_at {l : List Int} {i k : Nat} (h : firstV l = some (i, k)) : joinV l = joinAt l i k := by unfold joinV; rw [h]
theorem joinV_len {l : List Int} (h : (firstV l).isSome = true) : (joinV l).length < l.length := by
  obtain ⟨⟨i, k⟩, e⟩ := Option.isSome_iff_exists.1 h
  have := firstV_some e
  rw [joinV_at e]; exact joinAt_len this.1 this.2
theorem joinV_inc {l : List Int} (h : (firstV l).isSome = true) : incB (joinV l) = true := by
  obtain ⟨⟨i, k⟩, e⟩ := Option.isSome_iff_exists.1 h
  rw [joinV_at e]; exact inc_of_asc (gatV_asc _)
/-- Joined till nothing clashes. -/
def hullV : Nat → List Int → List Int
  | 0, l => l
  | n + 1, l => if (firstV l).isSome = true then hullV n (joinV l) else l
theorem hullV_end {l : List Int} (h : (firstV l).isSome = false) : ∀ n, hullV n l = l
  | 0 => rfl
  | n + 1 => by unfold hullV; rw [if_neg (by rw [h]; exact Bool.false_ne_true)]
theorem hullV_step {l : List Int} (h : (firstV l).isSome = true) {n : Nat} : hullV (n + 1) l = hullV n (joinV l) := if_pos h
end Go.Proofs.Ytjlpjkiadohkiaa
