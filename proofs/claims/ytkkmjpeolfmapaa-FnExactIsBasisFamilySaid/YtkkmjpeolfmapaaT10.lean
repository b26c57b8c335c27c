import Derived.Test.YtkkmjpeolfmapaaT9
set_option linter.unusedSimpArgs false
set_option linter.unusedVariables false
set_option maxHeartbeats 2000000
namespace Go.Proofs.Ytkkmjpeolfmapaa
open Go Go.Ab
attribute [local irreducible] aol


theorem anyFirst {p : Int → Bool} : ∀ {l : List Int}, (l.findIdx? p).isSome = l.any p
  | [] => rfl
  | x :: l => by
    rw [List.findIdx?_cons, List.any_cons, ← anyFirst (l := l)]
    cases p x <;> simp
/-- The place of the first element that is wanted. -/
def idxV (p : Int → Bool) (l : List Int) : Int := match l.findIdx? p with | some i => (i : Int) | none => -1
theorem idxV_nonneg {p : Int → Bool} {l : List Int} : decide (0 ≤ idxV p l) = l.any p := by
  rw [← anyFirst]; unfold idxV
  cases l.findIdx? p with
  | some i => simp
  | none => simp
theorem idxV_at {p : Int → Bool} {l : List Int} {k : Nat} (hk : k < l.length) (h : ∀ m, m < k → p (l.getD m 0) = false) (hp : p (l.getD k 0) = true) : idxV p l = k := by
  unfold idxV
  have : l.findIdx? p = some k := by
    rw [List.findIdx?_eq_some_iff_getElem]
    refine ⟨hk, ?_, fun j hj => ?_⟩
    · rw [List.getD_eq_getElem?_getD, List.getElem?_eq_getElem hk] at hp; simpa using hp
    · have := h j hj
      rw [List.getD_eq_getElem?_getD, List.getElem?_eq_getElem (by omega)] at this
      simpa using this
  rw [this]
theorem idxV_none {p : Int → Bool} {l : List Int} {k : Nat} (hk : l.length ≤ k) (h : ∀ m, m < k → p (l.getD m 0) = false) : idxV p l = -1 := by
  unfold idxV
  have : l.findIdx? p = none := by
    rw [List.findIdx?_eq_none_iff]
    intro x hx
    obtain ⟨m, hm, e⟩ := List.getElem_of_mem hx
    have := h m (by omega)
    rw [List.getD_eq_getElem?_getD, List.getElem?_eq_getElem hm] at this
    rw [← e]; simpa using this
  rw [this]

end Go.Proofs.Ytkkmjpeolfmapaa
