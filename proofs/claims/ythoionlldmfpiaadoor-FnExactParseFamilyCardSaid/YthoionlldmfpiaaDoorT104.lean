import Derived.Test.YthoionlldmfpiaaDoorHs
import Derived.Test.YthoionlldmfpiaaDoorT103
set_option linter.unusedSimpArgs false
set_option linter.unusedVariables false
set_option maxHeartbeats 2000000
namespace Go.Proofs.YthoionlldmfpiaaDoor
open Go Go.Ab
attribute [local irreducible] aol
theorem fam_len {g : Int} {l : List Int} (h : famV g l = true) : l.length ≤ 64 := by
  have h' := famV_iff.1 h
  have e : l = rangeL (fun x => decide (x ∈ l)) (2 ^ g.toNat) := asc_ext (asc_of_inc h'.2.2) (rangeL_asc _ _) fun x => by
    rw [mem_rangeL, decide_eq_true_eq, ← isSet_range h'.1.1]
    exact ⟨fun hx => ⟨List.all_eq_true.1 h'.2.1 x hx, hx⟩, fun hx => hx.2⟩
  rw [e]; exact Nat.le_trans (rangeL_len ..) (Nat.pow_le_pow_right (by decide) (by have := h'.1; omega : g.toNat ≤ 6))
end Go.Proofs.YthoionlldmfpiaaDoor
