import Derived.Test.YtjlpjkiadohkiaaT17
import Derived.Test.YtjlpjkiadohkiaaShB
set_option linter.unusedSimpArgs false
set_option linter.unusedVariables false
set_option maxHeartbeats 2000000
namespace Go.Proofs.Ytjlpjkiadohkiaa
open Go Go.Ab
attribute [local irreducible] aol


def gatV (l : List Int) : List Int := Go.Lib.compact (sortV l)
theorem sortV_pw (l : List Int) : (sortV l).Pairwise (· ≤ ·) := by
  have := List.pairwise_mergeSort (le := fun x y : Int => decide (x ≤ y)) (fun a b c h1 h2 => by simp at *; omega) (fun a b => by simp; omega) l
  exact this.imp fun h => by simpa using h
theorem sortV_mem {l : List Int} {x : Int} : x ∈ sortV l ↔ x ∈ l := List.mem_mergeSort
theorem keeps_iff {d : Array Int} {i : Nat} : Go.Lib.keeps d i = true ↔ i = 0 ∨ d[i]! ≠ d[i - 1]! := by
  simp [Go.Lib.keeps]
theorem pw_get {l : List Int} (h : l.Pairwise (· ≤ ·)) {i j : Nat} (hij : i ≤ j) (hj : j < l.length) : l.toArray[i]! ≤ l.toArray[j]! := by
  rcases Nat.lt_or_eq_of_le hij with h' | h'
  · have := List.pairwise_iff_getElem.1 h i j (by omega) hj h'
    rw [getElem!_pos _ i (by simp; omega), getElem!_pos _ j (by simpa using hj)]
    simpa using this
  · subst h'; exact Int.le_refl _
theorem compact_asc {l : List Int} (h : l.Pairwise (· ≤ ·)) : (Go.Lib.compact l).Pairwise (· < ·) := by
  unfold Go.Lib.compact Go.Lib.compactUpTo
  rw [List.pairwise_map]
  have h1 : ((List.range l.length).filter (Go.Lib.keeps l.toArray)).Pairwise (fun i j => i < j ∧ i < l.length ∧ j < l.length ∧ Go.Lib.keeps l.toArray j = true) := by
    refine List.Pairwise.imp_of_mem ?_ (List.Pairwise.filter _ List.pairwise_lt_range)
    intro i j hi hj hij
    rw [List.mem_filter, List.mem_range] at hi hj
    exact ⟨hij, hi.1, hj.1, hj.2⟩
  refine h1.imp ?_
  rintro i j ⟨hij, hi, hj, hk⟩
  rcases keeps_iff.1 hk with h0 | h0
  · omega
  · have a := pw_get h (i := i) (j := j - 1) (by omega) (by omega)
    have b := pw_get h (i := j - 1) (j := j) (by omega) hj
    omega
theorem compact_mem {l : List Int} {x : Int} : x ∈ Go.Lib.compact l ↔ x ∈ l := by
  unfold Go.Lib.compact Go.Lib.compactUpTo
  simp only [List.mem_map, List.mem_filter, List.mem_range]
  constructor
  · rintro ⟨i, ⟨hi, _⟩, rfl⟩
    rw [getElem!_pos _ i (by simpa using hi)]
    simp
  · intro hx
    obtain ⟨i, hi, e⟩ := List.getElem_of_mem hx
    have key : ∀ i, i < l.length → l.toArray[i]! = x → ∃ j, (j < l.length ∧ Go.Lib.keeps l.toArray j = true) ∧ l.toArray[j]! = x := by
      intro i
      induction i with
      | zero => intro h1 h2; exact ⟨0, ⟨h1, keeps_iff.2 (.inl rfl)⟩, h2⟩
      | succ i ih =>
        intro h1 h2
        by_cases hk : Go.Lib.keeps l.toArray (i + 1) = true
        · exact ⟨i + 1, ⟨h1, hk⟩, h2⟩
        · have : l.toArray[i + 1]! = l.toArray[i]! := by
            rw [keeps_iff] at hk
            have := not_or.1 hk
            exact Decidable.of_not_not this.2
          exact ih (by omega) (by rw [← this]; exact h2)
    refine key i hi ?_
    rw [getElem!_pos _ i (by simpa using hi)]
    simpa using e
theorem gatV_asc (l : List Int) : (gatV l).Pairwise (· < ·) := compact_asc (sortV_pw l)
theorem gatV_mem {l : List Int} {x : Int} : x ∈ gatV l ↔ x ∈ l := compact_mem.trans sortV_mem
theorem gatV_len (l : List Int) : (gatV l).length ≤ l.length := Nat.le_trans (compact_le _) (by simp [sortV])
/-- A number is put into an ascending list, once. -/
def putV : List Int → Int → List Int
  | [], n => [n]
  | x :: xs, n => if n < x then n :: x :: xs else if n = x then x :: xs else x :: putV xs n
theorem putV_mem {n y : Int} : ∀ {l : List Int}, y ∈ putV l n ↔ y = n ∨ y ∈ l
  | [] => by simp [putV]
  | x :: xs => by
    unfold putV
    split
    · simp
    · split
      · rename_i h; subst h; simp
      · rw [List.mem_cons, putV_mem, List.mem_cons]
        constructor
        · rintro (h | h | h)
          · exact .inr (.inl h)
          · exact .inl h
          · exact .inr (.inr h)
        · rintro (h | h | h)
          · exact .inr (.inl h)
          · exact .inl h
          · exact .inr (.inr h)
theorem putV_asc {n : Int} : ∀ {l : List Int}, l.Pairwise (· < ·) → (putV l n).Pairwise (· < ·)
  | [], _ => by simp [putV]
  | x :: xs, h => by
    rw [List.pairwise_cons] at h
    unfold putV
    split
    · rename_i hlt
      refine List.pairwise_cons.2 ⟨fun y hy => ?_, List.pairwise_cons.2 h⟩
      rw [List.mem_cons] at hy
      rcases hy with rfl | hy
      · exact hlt
      · have := h.1 y hy; omega
    · split
      · exact List.pairwise_cons.2 h
      · refine List.pairwise_cons.2 ⟨fun y hy => ?_, putV_asc h.2⟩
        rw [putV_mem] at hy
        rcases hy with rfl | hy
        · omega
        · exact h.1 y hy
theorem putV_in {n : Int} : ∀ {l : List Int}, l.Pairwise (· < ·) → n ∈ l → putV l n = l := fun hl hn =>
  asc_ext (putV_asc hl) hl fun x => by
    rw [putV_mem]
    constructor
    · rintro (rfl | h)
      · exact hn
      · exact h
    · exact .inr
end Go.Proofs.Ytjlpjkiadohkiaa
