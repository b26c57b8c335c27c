/-
  The largest common independent set of two matroids has as many elements as the bound and so have common vectors of polymatroids: FnIntersection answers true for all codes.
-/
import Derived.Test.YtjlpjkiadohkiaaT88
import Derived.Test.YtjlpjkiadohkiaaTop
import Derived.Test.YtjlpjkiadohkiaaRows
namespace Go.Proofs.Ytjlpjkiadohkiaa
open Go Go.Ab
open Go.ChangeShapes Go.WideShapes Go.ChangeAt Go.RowKit
set_option linter.unusedVariables false

set_option maxRecDepth 100000 in
theorem fnIntersection_lifted (os : Os) (started : os.Started) (H : Type) (enc : TypeId × Value → H) :
    ReturnsInHanded {} Try.checked os 4 .any (Rows.fnIntersectionSpec.pre6 enc Try.prog Try.f4 Rows.fnIntersectionRow.domain false) (Rows.fnIntersectionSpec.post enc Try.prog Try.f4 false true false false) := by
  refine returnsInHanded_of_change (C := Try.checked) own started (by kernel_rfl) Try.func4
    (ChangeSpec.witness6 (enc := enc) (C := Try.checked) false ⟨#[], #[.slice none 0 0], []⟩ 8 (by kernel_rfl) (by kernel_rfl) (by kernel_rfl) (by kernel_rfl)) ?_
  intro W base args ds gs before hval0 hW hcnd _
  have hval : ∀ (j : Nat) t v, Try.f4.params[j]? = some t → args[j]? = some v → Value.okWide Try.prog W .any base t v := hval0
  have hW' := hW
  obtain ⟨p, q, hA0, hV, rfl, hfz, hnd⟩ := hW
  have hA : DataW.TrodAll enc Try.prog W 0 (fun _ => true) true Try.f4.params.toList args.toList ds p := hA0
  rw [Try.params4] at hA hval
  obtain ⟨v0, vs0, d0, ds0, p0, q0, hargs, rfl, rfl, h0, r0⟩ := trodAll_cons hA
  obtain ⟨rfl, rfl, rfl⟩ := trodAll_nil r0
  obtain rfl : args = #[v0] := by cases args; simp_all
  obtain ⟨rfl, rfl⟩ := trodVars_none hV
  obtain ⟨l0, x0, b0⟩ := op_ints (c := cx0 Try.prog W) (ρ := fun _ => none) rfl inX Try.underlying22 Try.underlying5 (by kernel_rfl) (hval 0 _ v0 rfl rfl) h0
  clear hA0 hval0
  refine (law_call (args := [.sl .u8 l0]) (vs := [v0]) lawInt_ok ⟨_, rfl, trivial⟩ (rvs_cons x0 rvs_nil)).mono fun e W' ⟨he, bel⟩ => ?_
  subst he
  exact ⟨_, rfl, _, _, _, [], _, [], hW', trodAll_mk1 (shut_bool Try.underlying4 _), (trodAll_cons_mk (Below.trod laidOut (by kernel_rfl) (of_decide_eq_true (by kernel_rfl)) h0 bel (trod_low h0)) trodAll_mk0), rfl, bel.frame _, fun h => by cases h⟩

theorem fnIntersection_over : Rows.fnIntersectionRow.holds Try.pinned (OpenSpec.ofChange Rows.fnIntersectionSpec) :=
  OpenClaim.holds_of_wide 4 Try.f4 rfl rfl rfl rfl rfl rfl rfl ⟨rfl, rfl, rfl, rfl, rfl⟩ rfl rfl rfl rfl rfl (by kernel_rfl) Try.func4 (by kernel_rfl)
    (of_decide_eq_true (by kernel_rfl)) (by unfold Func.isWrapper; first | (rw [if_pos (by decide +kernel)]; kernel_rfl) | (rw [if_neg (by decide +kernel)]; exact ⟨rfl, rfl⟩))
    (fun os started H enc _ => fnIntersection_lifted os started H enc)

/-- THE STATEMENT. -/
theorem fnIntersection_proved : Rows.FnIntersectionSaid := fnIntersection_over
#print axioms fnIntersection_proved
end Go.Proofs.Ytjlpjkiadohkiaa
