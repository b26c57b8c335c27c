import Derived.Test.YtkkmjpeolfmapaaT16
set_option linter.unusedSimpArgs false
set_option linter.unusedVariables false
set_option maxHeartbeats 2000000
namespace Go.Proofs.Ytkkmjpeolfmapaa
open Go Go.Ab
attribute [local irreducible] aol


theorem first0 {g : Int} {l : List Int} (h : famV g l = true) : (0 ∈ l) ↔ 0 < l.length ∧ l.getD 0 0 = 0 := by
  rw [famV_iff] at h
  constructor
  · intro h0
    obtain ⟨m, hm, e⟩ := List.getElem_of_mem h0
    have e' : l.getD m 0 = 0 := by rw [List.getD_eq_getElem?_getD, List.getElem?_eq_getElem hm]; exact e
    refine ⟨by omega, ?_⟩
    rcases Nat.eq_zero_or_pos m with rfl | hm0
    · exact e'
    · have := inc_lt h.2.2 hm0 hm
      have := getD_all h.2.1 (k := 0) (by omega)
      rw [isSet_iff] at this
      omega
  · rintro ⟨h1, h2⟩; exact mem_getD h1 h2
end Go.Proofs.Ytkkmjpeolfmapaa
